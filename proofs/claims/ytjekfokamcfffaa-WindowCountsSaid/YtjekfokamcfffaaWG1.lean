import Derived.Test.YtjekfokamcfffaaWM
set_option linter.unusedVariables false
set_option linter.unusedSimpArgs false
set_option maxRecDepth 100000
noncomputable section
namespace Go.Vm
open Go.Proofs
variable {R : Type}
noncomputable def fuel_C1_0 (a c b : Int) (d : SRect) (e f g i : Int) : Nat := Int.toNat (a - b) + 1
noncomputable def step_C1_0 (c : Int) (f : SRect) (g i j m : Int) (b a : Int) (again : Int -> Int -> Option R) (kn : Int -> Int -> Option R) : Option R := bif (decide (a < c)) then let d := IntKind.wrap .i64 (2 * b); let e := IntKind.wrap .i64 (a + 1); again d e else kn b a
noncomputable def loop_C1_0 (a : Int) (b : SRect) (c d e f : Int) : Nat -> Int -> Int -> (Int -> Int -> Option R) -> Option R
  | 0, _, _, _ => none
  | n + 1, g, i, kn => step_C1_0 a b c d e f g i (fun j m => loop_C1_0 a b c d e f n j m kn) kn
noncomputable def shape_C1_0 : ST := ⟨.undef :: .int .i64 :: .undef :: .ptr 0 0 0 :: .undef :: .undef :: .ptr 1 0 0 :: .int .i64 :: .int .i64 :: unds 25 [], [(0, .var SRect.sh false SRect.ts), (1, .var SRect.sh false SRect.ts)], 19⟩
noncomputable def st_C1_0 (b : Int) (a : SRect) (c d e f : Int) (g i : Int) : St := shape_C1_0.put [.i b, .i g, .i i, .i a.X0, .i a.Y0, .i a.X1, .i a.Y1, .i c, .i d, .i e, .i f]
noncomputable def hook_C1_0 : LoopG R := fun l kn _ _ => match l with
  | .i a :: .i m :: .i o :: .i b :: .i c :: .i d :: .i e :: .i f :: .i g :: .i i :: .i j :: [] => loop_C1_0 a (SRect.mk b c d e) f g i j (fuel_C1_0 a m o (SRect.mk b c d e) f g i j) m o (fun p q => kn (st_C1_0 a (SRect.mk b c d e) f g i j p q))
  | _ => none
noncomputable def env_C1 : Env R := ⟨Try.prog, callCons 43 c_H0 (callCons 58 c_I0 callNil), fun id => bif Nat.beq id 0 then loopAlt shape_C1_0 hook_C1_0 loopNil else (fun _ _ _ _ _ => none) id, Try.f60.results.toList, maskTab 34 [(0, 0xe604e), (1, 0x10004e), (2, 0x40), (3, 0xce), (4, 0x1ca), (5, 0x20001ca), (6, 0x1ca), (7, 0x1ca), (8, 0x40)], maskAt [(1, 19), (2, 2), (4, 14), (6, 16), (8, 17), (10, 23), (12, 29), (14, 26), (16, 32)]⟩
theorem step_C1_0_eq (a : Int) (b : SRect) (c d e f : Int) (j m : Int) (kn : St -> Option R) (kx : Nat -> St -> Option R) (kr : V -> Option R) (n : Nat) (o p : Int) :
    loopN env_C1 0 (loopAt Try.f60 0) (st_C1_0 a b c d e f j m) kn kx kr (n + 1) (st_C1_0 a b c d e f o p) =
    step_C1_0 a b c d e f o p (fun g i => loopN env_C1 0 (loopAt Try.f60 0) (st_C1_0 a b c d e f j m) kn kx kr n (st_C1_0 a b c d e f g i)) (fun g i => kn (st_C1_0 a b c d e f g i)) := by kernel_rfl
theorem loop_C1_0_eq (a : Int) (b : SRect) (c d e f : Int) (o p : Int) (kn : St -> Option R) (kx : Nat -> St -> Option R) (kr : V -> Option R) : ∀ (n : Nat) (g i : Int),
    loop_C1_0 a b c d e f n g i (fun j m => kn (st_C1_0 a b c d e f j m)) = loopN env_C1 0 (loopAt Try.f60 0) (st_C1_0 a b c d e f o p) kn kx kr n (st_C1_0 a b c d e f g i)
  | 0, _, _ => rfl
  | n + 1, g, i => by
    rw [step_C1_0_eq, loop_C1_0]
    congr 1
    funext j m
    exact loop_C1_0_eq a b c d e f o p kn kx kr n j m
theorem goodl_C1_0 {rest} (h : GoodL (R := R) env_C1 0 (loopAt Try.f60 0) rest) : GoodL (R := R) env_C1 0 (loopAt Try.f60 0) (loopAlt shape_C1_0 hook_C1_0 rest) := by
  refine goodL_alt (fun l kn kx kr r h => ?_) h
  unfold hook_C1_0 at h
  split at h
  · rename_i c a b d e f g i j m o
    exact ⟨_, (loop_C1_0_eq c (SRect.mk d e f g) i j m o a b kn kx kr _ a b).symm.trans h⟩
  · cases h
theorem good_C1_0 : GoodLoop (R := R) env_C1 0 (loopAt Try.f60 0) := goodL_loop (g := loopAlt shape_C1_0 hook_C1_0 loopNil) (fun _ _ _ _ => rfl) (goodl_C1_0 goodL_nil)
noncomputable def spec_C1 (c : SRect) (a b : Int) (k : V -> Option R) : Option R := let e := m_I0 a; let f := decide (b < 0); let g : Bool := (bif (e == 0) then true else f); let i : Bool := (bif g then true else (decide (b > a))); bif i then k (V.agg [(V.int .i64 0), (V.int .i64 0), (V.int .i64 0), (V.int .i64 0)]) else loop_C1_0 a c 0 0 0 0 (fuel_C1_0 a 1 b c 0 0 0 0) 1 b (fun d m => let j := m_H0 c d d; k (SRect.v j))
abbrev av_C1 (a : SRect) (b c : Int) : List V := [(SRect.v a), V.int .i64 b, V.int .i64 c]
theorem spec_C1_eq (a : SRect) (b c : Int) (k : V -> Option R) : fnK env_C1 Try.f60 (av_C1 a b c) k = spec_C1 a b c k := by kernel_rfl
theorem mk_C1 (h_H0 : G_H0) (h_I0 : G_I0) (h : ∀ (a : SRect) (b d : Int), Real (av_C1 a b d) -> spec_C1 a b d some = some (SRect.v (m_C1 a b d))) : G_C1 := goodHook1 fun l hp => by
  unfold hp_C1 at hp
  split at hp
  · rename_i f g i j m o
    exact fn_ok (fn := Try.f60) (c := bodyOf Try.f60) (E := env_C1) ⟨by kernel_rfl, (goodCons h_H0 (goodCons h_I0 goodNil)), rfl⟩ rfl (by kernel_rfl) (by kernel_rfl) (by kernel_rfl) (loopsOK_of _ (by have e : loopsOf (bodyOf Try.f60) = [(0, loopAt Try.f60 0)] := (by kernel_rfl); rw [e]; simp only [List.forall_mem_cons, List.not_mem_nil, false_implies, implies_true, and_true]; exact good_C1_0)) (fun hr => (spec_C1_eq (SRect.mk f g i j) m o some).trans (h (SRect.mk f g i j) m o hr))
  · cases hp
noncomputable def env_E5 : Env R := ⟨Try.prog, callNil, fun _ _ _ _ _ => none, Try.f77.results.toList, maskTab 30 [(0, 0xf16), (1, 0x1016), (2, 0x10), (3, 0x20016), (4, 0x10), (5, 0x800016), (6, 0x10), (7, 0x10)], maskAt [(2, 2), (4, 10), (6, 12), (8, 16), (10, 18), (12, 23), (14, 25)]⟩
noncomputable def spec_E5 (a : SParams) (b : Int) (k : V -> Option R) : Option R := let c := decide (b < 0); let d := decide (b > a.Levels); let e : Bool := (bif c then true else d); bif e then k (V.agg [(V.int .i64 0), (V.int .i64 0)]) else let f := (((List.length a.Precincts) : Nat) : Int); bif (f == 0) then k (V.agg [(V.int .i64 12), (V.int .i64 12)]) else let g := (((List.length a.Precincts) : Nat) : Int); bif (decide (b >= g)) then k (V.agg [(V.int .i64 0), (V.int .i64 0)]) else bif (inR b (List.length a.Precincts)) then let i := List.getD a.Precincts (Int.toNat b) []; let j := SPoint.of i; k (SPoint.v j) else none
abbrev av_E5 (a : SParams) (b : Int) : List V := [(SParams.v a), V.int .i64 b]
theorem spec_E5_eq (a : SParams) (b : Int) (k : V -> Option R) : fnK env_E5 Try.f77 (av_E5 a b) k = spec_E5 a b k := by kernel_rfl
theorem mk_E5 (h : ∀ (a : SParams) (b : Int), Real (av_E5 a b) -> spec_E5 a b some = some (SPoint.v (m_E5 a b))) : G_E5 := goodHook1 fun l hp => by
  unfold hp_E5 at hp
  split at hp
  · rename_i d f g i j m o q r s t u v w y z A B D F
    exact fn_ok (fn := Try.f77) (c := bodyOf Try.f77) (E := env_E5) ⟨by kernel_rfl, goodNil, rfl⟩ rfl (by kernel_rfl) (by kernel_rfl) (by kernel_rfl) (loopsOK_of _ (by have e : loopsOf (bodyOf Try.f77) = [] := (by kernel_rfl); rw [e]; intro p hp; cases hp)) (fun hr => (spec_E5_eq (SParams.mk d f g i j m o q (SMode.mk r s t u v) w y z A B D) F some).trans (h (SParams.mk d f g i j m o q (SMode.mk r s t u v) w y z A B D) F hr))
  · cases hp
theorem au_E5 (a : SParams) (b : Int) : pre_E5 a b = true -> spec_E5 a b some = some ((fun (m : SPoint) => (SPoint.v m)) (m_E5 a b)) := by
  repeat' (first | exact fun _ => rfl | exact fun h => absurd h (by decide) | refine bif_p (v := (fun (m : SPoint) => (SPoint.v m))) ?_ ?_)
theorem good_E5_of : G_E5 := mk_E5 (fun _ _ _ => au_E5 _ _ (pt_E5 _ _))
noncomputable def env_J7 : Env R := ⟨Try.prog, callCons 31 c_H8 (callCons 75 c_F9 (callCons 76 c_E6 callNil)), fun _ _ _ _ _ => none, Try.f78.results.toList, maskTab 36 [(0, 0xe), (1, 0x40e), (2, 0x40), (3, 0x8c), (4, 0x180), (5, 0x40)], maskAt [(2, 2), (4, 4), (6, 5), (8, 17), (10, 29)]⟩
noncomputable def spec_J7 (a : SRect) (b c : Int) (k : V -> Option R) : Option R := let d := m_H8 a; bif d then k (V.int .i64 0) else bif (decide (0 <= b)) then let e := IntKind.wrap .i64 (1 * 2 ^ (min (Int.toNat b) 64)); let f := m_F9 a.X1 e; bif (decide (0 <= b)) then let g := IntKind.wrap .i64 (1 * 2 ^ (min (Int.toNat b) 64)); let i := m_E6 a.X0 g; let j := IntKind.wrap .i64 (f - i); bif (decide (0 <= c)) then let m := IntKind.wrap .i64 (1 * 2 ^ (min (Int.toNat c) 64)); let o := m_F9 a.Y1 m; bif (decide (0 <= c)) then let p := IntKind.wrap .i64 (1 * 2 ^ (min (Int.toNat c) 64)); let q := m_E6 a.Y0 p; let r := IntKind.wrap .i64 (o - q); let s := IntKind.wrap .i64 (j * r); k (V.int .i64 s) else none else none else none else none
abbrev av_J7 (a : SRect) (b c : Int) : List V := [(SRect.v a), V.int .i64 b, V.int .i64 c]
theorem spec_J7_eq (a : SRect) (b c : Int) (k : V -> Option R) : fnK env_J7 Try.f78 (av_J7 a b c) k = spec_J7 a b c k := by kernel_rfl
theorem mk_J7 (h_H8 : G_H8) (h_F9 : G_F9) (h_E6 : G_E6) (h : ∀ (a : SRect) (b d : Int), pre_J7 a b d = true -> Real (av_J7 a b d) -> spec_J7 a b d some = some (V.int .i64 (m_J7 a b d))) : G_J7 := goodHook1 fun l hp => by
  unfold hp_J7 at hp
  split at hp
  · rename_i f g i j m o
    exact fn_ok (fn := Try.f78) (c := bodyOf Try.f78) (E := env_J7) ⟨by kernel_rfl, (goodCons h_H8 (goodCons h_F9 (goodCons h_E6 goodNil))), rfl⟩ rfl (by kernel_rfl) (by kernel_rfl) (by kernel_rfl) (loopsOK_of _ (by have e : loopsOf (bodyOf Try.f78) = [] := (by kernel_rfl); rw [e]; intro p hp; cases hp)) (fun hr => (spec_J7_eq (SRect.mk f g i j) m o some).trans (h (SRect.mk f g i j) m o hp hr))
  · cases hp
theorem au_J7 (a : SRect) (b c : Int) : pre_J7 a b c = true -> spec_J7 a b c some = some ((fun (m : Int) => (V.int .i64 m)) (m_J7 a b c)) := by
  repeat' (first | exact fun _ => rfl | exact fun h => absurd h (by decide) | refine bif_p (v := (fun (m : Int) => (V.int .i64 m))) ?_ ?_)
theorem good_J7_of (h_H8 : G_H8) (h_F9 : G_F9) (h_E6 : G_E6) : G_J7 := mk_J7 h_H8 h_F9 h_E6 (fun _ _ _ hp _ => au_J7 _ _ _ hp)
noncomputable def fuel_G1_2 (c d a : Int) (e : SHeader) (b : SParams) (f g : SRect) : Nat := let i := decide (a <= b.Levels); Int.toNat (b.Levels - a) + 2
noncomputable def step_G1_2 (o : Int) (p : SHeader) (c : SParams) (q f : SRect) (d a : Int) (again : Int -> Int -> Option R) (kn : Int -> Int -> Option R) : Option R := let g := decide (a <= c.Levels); bif g then let b := m_E5 c a; let e := m_C1 f c.Levels a; bif (pre_J7 e b.X b.Y) then let i := m_J7 e b.X b.Y; let j := IntKind.wrap .i64 (d + i); let m := IntKind.wrap .i64 (a + 1); again j m else none else kn d a
noncomputable def loop_G1_2 (a : Int) (b : SHeader) (c : SParams) (d e : SRect) : Nat -> Int -> Int -> (Int -> Int -> Option R) -> Option R
  | 0, _, _, _ => none
  | n + 1, f, g, kn => step_G1_2 a b c d e f g (fun i j => loop_G1_2 a b c d e n i j kn) kn
noncomputable def shape_G1_2 : ST := ⟨unds 3 (.ptr 0 0 0 :: .ptr 1 0 0 :: .ptr 2 0 0 :: .undef :: .int .i64 :: .int .i64 :: .ptr 29 0 0 :: .int .i64 :: unds 47 []), [(0, .var SHeader.sh false SHeader.ts), (1, .var SParams.sh false SParams.ts), (2, .var SRect.sh false SRect.ts), (29, .var SRect.sh false SRect.ts)], 32⟩
noncomputable def st_G1_2 (e : Int) (b : SHeader) (a : SParams) (c d : SRect) (f g : Int) : St := shape_G1_2.put [.i f, .i e, .i g, .i b.Area.X0, .i b.Area.Y0, .i b.Area.X1, .i b.Area.Y1, .i b.TileW, .i b.TileH, .r b.Components, .i a.Kernel, .i a.Levels, .i a.Color, .i a.BlockX, .i a.BlockY, .r a.Precincts, .i a.Order, .i a.Layers, .b a.Mode.Bypass, .b a.Mode.Restart, .b a.Mode.Reset, .b a.Mode.Causal, .b a.Mode.Symbols, .b a.Divide, .b a.Sync, .b a.Fence, .r a.Steps, .i a.Dead, .i a.Shift, .i c.X0, .i c.Y0, .i c.X1, .i c.Y1, .i d.X0, .i d.Y0, .i d.X1, .i d.Y1]
noncomputable def hook_G1_2 : LoopG R := fun l kn _ _ => match l with
  | .i S :: .i a :: .i U :: .i b :: .i c :: .i d :: .i e :: .i f :: .i g :: .r i :: .i j :: .i m :: .i o :: .i p :: .i q :: .r r :: .i s :: .i t :: .b u :: .b v :: .b w :: .b y :: .b z :: .b A :: .b B :: .b D :: .r E :: .i F :: .i H :: .i I :: .i J :: .i K :: .i L :: .i M :: .i N :: .i O :: .i Q :: [] => loop_G1_2 a (SHeader.mk (SRect.mk b c d e) f g i) (SParams.mk j m o p q r s t (SMode.mk u v w y z) A B D E F H) (SRect.mk I J K L) (SRect.mk M N O Q) (fuel_G1_2 S a U (SHeader.mk (SRect.mk b c d e) f g i) (SParams.mk j m o p q r s t (SMode.mk u v w y z) A B D E F H) (SRect.mk I J K L) (SRect.mk M N O Q)) S U (fun W X => kn (st_G1_2 a (SHeader.mk (SRect.mk b c d e) f g i) (SParams.mk j m o p q r s t (SMode.mk u v w y z) A B D E F H) (SRect.mk I J K L) (SRect.mk M N O Q) W X))
  | _ => none
noncomputable def fuel_G1_0 (d a : Int) (b : SHeader) (e : SParams) (f : SRect) : Nat := let c := (((List.length b.Components) : Nat) : Int); Int.toNat (c - a) + 1
noncomputable def step_G1_0 (b : SHeader) (e : SParams) (c : SRect) (d a : Int) (again : Int -> Int -> Option R) (kn : Int -> Int -> Option R) : Option R := let g := (((List.length b.Components) : Nat) : Int); bif (decide (a < g)) then bif (inR a (List.length b.Components)) then let i := List.getD b.Components (Int.toNat a) []; let j := V.toInt (List.getD i 2 V.undef); bif (inR a (List.length b.Components)) then let m := List.getD b.Components (Int.toNat a) []; let o := V.toInt (List.getD m 3 V.undef); let f := m_H0 c j o; loop_G1_2 a b e c f (fuel_G1_2 d a 0 b e c f) d 0 (fun p r => let q := IntKind.wrap .i64 (a + 1); again p q) else none else none else kn d a
noncomputable def loop_G1_0 (a : SHeader) (b : SParams) (c : SRect) : Nat -> Int -> Int -> (Int -> Int -> Option R) -> Option R
  | 0, _, _, _ => none
  | n + 1, d, e, kn => step_G1_0 a b c d e (fun f g => loop_G1_0 a b c n f g kn) kn
noncomputable def shape_G1_0 : ST := ⟨unds 3 (.ptr 0 0 0 :: .ptr 1 0 0 :: .ptr 2 0 0 :: .undef :: .int .i64 :: .int .i64 :: unds 49 []), [(0, .var SHeader.sh false SHeader.ts), (1, .var SParams.sh false SParams.ts), (2, .var SRect.sh false SRect.ts)], 6⟩
noncomputable def st_G1_0 (b : SHeader) (a : SParams) (c : SRect) (d e : Int) : St := shape_G1_0.put [.i d, .i e, .i b.Area.X0, .i b.Area.Y0, .i b.Area.X1, .i b.Area.Y1, .i b.TileW, .i b.TileH, .r b.Components, .i a.Kernel, .i a.Levels, .i a.Color, .i a.BlockX, .i a.BlockY, .r a.Precincts, .i a.Order, .i a.Layers, .b a.Mode.Bypass, .b a.Mode.Restart, .b a.Mode.Reset, .b a.Mode.Causal, .b a.Mode.Symbols, .b a.Divide, .b a.Sync, .b a.Fence, .r a.Steps, .i a.Dead, .i a.Shift, .i c.X0, .i c.Y0, .i c.X1, .i c.Y1]
noncomputable def hook_G1_0 : LoopG R := fun l kn _ _ => match l with
  | .i L :: .i M :: .i a :: .i b :: .i c :: .i d :: .i e :: .i f :: .r g :: .i i :: .i j :: .i m :: .i o :: .i p :: .r q :: .i r :: .i s :: .b t :: .b u :: .b v :: .b w :: .b y :: .b z :: .b A :: .b B :: .r D :: .i E :: .i F :: .i H :: .i I :: .i J :: .i K :: [] => loop_G1_0 (SHeader.mk (SRect.mk a b c d) e f g) (SParams.mk i j m o p q r s (SMode.mk t u v w y) z A B D E F) (SRect.mk H I J K) (fuel_G1_0 L M (SHeader.mk (SRect.mk a b c d) e f g) (SParams.mk i j m o p q r s (SMode.mk t u v w y) z A B D E F) (SRect.mk H I J K)) L M (fun N O => kn (st_G1_0 (SHeader.mk (SRect.mk a b c d) e f g) (SParams.mk i j m o p q r s (SMode.mk t u v w y) z A B D E F) (SRect.mk H I J K) N O))
  | _ => none
noncomputable def env_G1 : Env R := ⟨Try.prog, callCons 43 c_H0 (callCons 60 c_C1 (callCons 77 c_E5 (callCons 78 c_J7 callNil))), fun id => bif Nat.beq id 2 then loopAlt shape_G1_2 hook_G1_2 loopNil else (fun id => bif Nat.beq id 0 then loopAlt shape_G1_0 hook_G1_0 loopNil else (fun _ _ _ _ _ => none) id) id, Try.f49.results.toList, maskTab 58 [(0, 0x38), (1, 0xb8), (2, 0x1b8), (3, 0x101b8), (4, 0x1b8), (5, 0x3b8), (6, 0x7b8), (7, 0x10000007b8), (8, 0x7b8), (9, 0xfb8), (10, 0x7b8), (11, 0x40)], maskAt [(1, 6), (2, 4), (4, 5), (5, 32), (6, 10), (8, 61), (10, 15), (12, 31), (14, 36), (16, 58), (18, 40), (20, 45), (22, 64)]⟩
theorem step_G1_2_eq (a : Int) (b : SHeader) (c : SParams) (d e : SRect) (i j : Int) (kn : St -> Option R) (kx : Nat -> St -> Option R) (kr : V -> Option R) (n : Nat) (m o : Int) :
    loopN env_G1 2 (loopAt Try.f49 1) (st_G1_2 a b c d e i j) kn kx kr (n + 1) (st_G1_2 a b c d e m o) =
    step_G1_2 a b c d e m o (fun f g => loopN env_G1 2 (loopAt Try.f49 1) (st_G1_2 a b c d e i j) kn kx kr n (st_G1_2 a b c d e f g)) (fun f g => kn (st_G1_2 a b c d e f g)) := by kernel_rfl
theorem loop_G1_2_eq (a : Int) (b : SHeader) (c : SParams) (d e : SRect) (m o : Int) (kn : St -> Option R) (kx : Nat -> St -> Option R) (kr : V -> Option R) : ∀ (n : Nat) (f g : Int),
    loop_G1_2 a b c d e n f g (fun i j => kn (st_G1_2 a b c d e i j)) = loopN env_G1 2 (loopAt Try.f49 1) (st_G1_2 a b c d e m o) kn kx kr n (st_G1_2 a b c d e f g)
  | 0, _, _ => rfl
  | n + 1, f, g => by
    rw [step_G1_2_eq, loop_G1_2]
    congr 1
    funext i j
    exact loop_G1_2_eq a b c d e m o kn kx kr n i j
theorem goodl_G1_2 {rest} (h : GoodL (R := R) env_G1 2 (loopAt Try.f49 1) rest) : GoodL (R := R) env_G1 2 (loopAt Try.f49 1) (loopAlt shape_G1_2 hook_G1_2 rest) := by
  refine goodL_alt (fun l kn kx kr r h => ?_) h
  unfold hook_G1_2 at h
  split at h
  · rename_i a c b d e f g i j m o p q s t u v w y z A B D E F H I J K L M N O Q S U W
    exact ⟨_, (loop_G1_2_eq c (SHeader.mk (SRect.mk d e f g) i j m) (SParams.mk o p q s t u v w (SMode.mk y z A B D) E F H I J K) (SRect.mk L M N O) (SRect.mk Q S U W) a b kn kx kr _ a b).symm.trans h⟩
  · cases h
theorem step_G1_0_eq (a : SHeader) (b : SParams) (c : SRect) (f g : Int) (kn : St -> Option R) (kx : Nat -> St -> Option R) (kr : V -> Option R) (n : Nat) (i j : Int) :
    loopN env_G1 0 (loopAt Try.f49 0) (st_G1_0 a b c f g) kn kx kr (n + 1) (st_G1_0 a b c i j) =
    step_G1_0 a b c i j (fun d e => loopN env_G1 0 (loopAt Try.f49 0) (st_G1_0 a b c f g) kn kx kr n (st_G1_0 a b c d e)) (fun d e => kn (st_G1_0 a b c d e)) := by kernel_rfl
theorem loop_G1_0_eq (a : SHeader) (b : SParams) (c : SRect) (i j : Int) (kn : St -> Option R) (kx : Nat -> St -> Option R) (kr : V -> Option R) : ∀ (n : Nat) (d e : Int),
    loop_G1_0 a b c n d e (fun f g => kn (st_G1_0 a b c f g)) = loopN env_G1 0 (loopAt Try.f49 0) (st_G1_0 a b c i j) kn kx kr n (st_G1_0 a b c d e)
  | 0, _, _ => rfl
  | n + 1, d, e => by
    rw [step_G1_0_eq, loop_G1_0]
    congr 1
    funext f g
    exact loop_G1_0_eq a b c i j kn kx kr n f g
theorem goodl_G1_0 {rest} (h : GoodL (R := R) env_G1 0 (loopAt Try.f49 0) rest) : GoodL (R := R) env_G1 0 (loopAt Try.f49 0) (loopAlt shape_G1_0 hook_G1_0 rest) := by
  refine goodL_alt (fun l kn kx kr r h => ?_) h
  unfold hook_G1_0 at h
  split at h
  · rename_i a b c d e f g i j m o p q s t u v w y z A B D E F H I J K L M N
    exact ⟨_, (loop_G1_0_eq (SHeader.mk (SRect.mk c d e f) g i j) (SParams.mk m o p q s t u v (SMode.mk w y z A B) D E F H I J) (SRect.mk K L M N) a b kn kx kr _ a b).symm.trans h⟩
  · cases h
theorem good_G1_0 : GoodLoop (R := R) env_G1 0 (loopAt Try.f49 0) := goodL_loop (g := loopAlt shape_G1_0 hook_G1_0 loopNil) (fun _ _ _ _ => rfl) (goodl_G1_0 goodL_nil)
theorem good_G1_2 : GoodLoop (R := R) env_G1 2 (loopAt Try.f49 1) := goodL_loop (g := loopAlt shape_G1_2 hook_G1_2 loopNil) (fun _ _ _ _ => rfl) (goodl_G1_2 goodL_nil)
noncomputable def spec_G1 (b : SHeader) (a : SParams) (c : SRect) (k : V -> Option R) : Option R := loop_G1_0 b a c (fuel_G1_0 0 0 b a c) 0 0 (fun d f => let e := IntKind.wrap .i64 (d * a.Layers); k (V.int .i64 e))
abbrev av_G1 (a : SHeader) (b : SParams) (c : SRect) : List V := [(SHeader.v a), (SParams.v b), (SRect.v c)]
theorem spec_G1_eq (a : SHeader) (b : SParams) (c : SRect) (k : V -> Option R) : fnK env_G1 Try.f49 (av_G1 a b c) k = spec_G1 a b c k := by kernel_rfl
theorem mk_G1 (h_H0 : G_H0) (h_C1 : G_C1) (h_E5 : G_E5) (h_J7 : G_J7) (h : ∀ (a : SHeader) (b : SParams) (d : SRect), pre_G1 a b d = true -> Real (av_G1 a b d) -> spec_G1 a b d some = some (V.int .i64 (m_G1 a b d))) : G_G1 := goodHook1 fun l hp => by
  unfold hp_G1 at hp
  split at hp
  · rename_i f g i j m o p q r s t u v w y z A B D F H I J K L M N O Q S
    exact fn_ok (fn := Try.f49) (c := bodyOf Try.f49) (E := env_G1) ⟨by kernel_rfl, (goodCons h_H0 (goodCons h_C1 (goodCons h_E5 (goodCons h_J7 goodNil)))), rfl⟩ rfl (by kernel_rfl) (by kernel_rfl) (by kernel_rfl) (loopsOK_of _ (by have e : loopsOf (bodyOf Try.f49) = [(0, loopAt Try.f49 0), (2, loopAt Try.f49 1)] := (by kernel_rfl); rw [e]; simp only [List.forall_mem_cons, List.not_mem_nil, false_implies, implies_true, and_true]; exact ⟨good_G1_0, good_G1_2⟩)) (fun hr => (spec_G1_eq (SHeader.mk (SRect.mk f g i j) m o p) (SParams.mk q r s t u v w y (SMode.mk z A B D F) H I J K L M) (SRect.mk N O Q S) some).trans (h (SHeader.mk (SRect.mk f g i j) m o p) (SParams.mk q r s t u v w y (SMode.mk z A B D F) H I J K L M) (SRect.mk N O Q S) hp hr))
  · cases hp
noncomputable def env_J3 : Env R := ⟨Try.prog, callNil, fun _ _ _ _ _ => none, Try.f89.results.toList, maskTab 11 [(0, 0x3), (1, 0x21), (2, 0x10), (3, 0x10)], maskAt [(2, 1), (4, 2), (6, 5)]⟩
noncomputable def spec_J3 (a : Int) (b : Bool) (k : V -> Option R) : Option R := bif b then let c := IntKind.wrap .i64 (Int.tdiv a 2); k (V.int .i64 c) else let d := IntKind.wrap .i64 (a + 1); let e := IntKind.wrap .i64 (Int.tdiv d 2); k (V.int .i64 e)
abbrev av_J3 (a : Int) (b : Bool) : List V := [V.int .i64 a, V.bool b]
theorem spec_J3_eq (a : Int) (b : Bool) (k : V -> Option R) : fnK env_J3 Try.f89 (av_J3 a b) k = spec_J3 a b k := by kernel_rfl
theorem mk_J3 (h : ∀ (a : Int) (b : Bool), Real (av_J3 a b) -> spec_J3 a b some = some (V.int .i64 (m_J3 a b))) : G_J3 := goodHook1 fun l hp => by
  unfold hp_J3 at hp
  split at hp
  · rename_i d f
    exact fn_ok (fn := Try.f89) (c := bodyOf Try.f89) (E := env_J3) ⟨by kernel_rfl, goodNil, rfl⟩ rfl (by kernel_rfl) (by kernel_rfl) (by kernel_rfl) (loopsOK_of _ (by have e : loopsOf (bodyOf Try.f89) = [] := (by kernel_rfl); rw [e]; intro p hp; cases hp)) (fun hr => (spec_J3_eq d f some).trans (h d f hr))
  · cases hp
theorem au_J3 (a : Int) (b : Bool) : spec_J3 a b some = some ((fun (m : Int) => (V.int .i64 m)) (m_J3 a b)) := by
  repeat' (first | rfl | refine bif_t (v := (fun (m : Int) => (V.int .i64 m))) ?_ ?_)
theorem good_J3_of : G_J3 := mk_J3 (fun _ _ _ => au_J3 _ _)
noncomputable def shape_H7_0 : ST := ⟨.undef :: .ptr 0 0 0 :: .ptr 1 0 0 :: .ptr 3 0 0 :: .lit .i64 0 :: unds 43 [], [(0, .var SRect.sh false [.int .i64, .int .i64, .int .i64, .int .i64]), (1, .var SA4_Rect.sh false [.lit .i64 0, .lit .i64 0, .lit .i64 0, .lit .i64 0, .lit .i64 0, .lit .i64 0, .lit .i64 0, .lit .i64 0, .lit .i64 0, .lit .i64 0, .lit .i64 0, .lit .i64 0, .lit .i64 0, .lit .i64 0, .lit .i64 0, .lit .i64 0]), (3, .var SA4_Rect.sh false [.lit .i64 0, .lit .i64 0, .lit .i64 0, .lit .i64 0, .lit .i64 0, .lit .i64 0, .lit .i64 0, .lit .i64 0, .lit .i64 0, .lit .i64 0, .lit .i64 0, .lit .i64 0, .lit .i64 0, .lit .i64 0, .lit .i64 0, .lit .i64 0])], 11⟩
noncomputable def un_H7_0 (a : SRect) (kn : St -> Option R) (kr : V -> Option R) : Option R := let b := m_J3 a.X0 false; let c := m_J3 a.Y0 false; let d := m_J3 a.X1 false; let e := m_J3 a.Y1 false; let f := m_J3 a.X0 true; let g := m_J3 a.Y0 false; let i := m_J3 a.X1 true; let j := m_J3 a.Y1 false; let m := m_J3 a.X0 false; let o := m_J3 a.Y0 true; let p := m_J3 a.X1 false; let q := m_J3 a.Y1 true; let r := m_J3 a.X0 true; let s := m_J3 a.Y0 true; let t := m_J3 a.X1 true; let u := m_J3 a.Y1 true; kn ⟨[V.undef, (V.ptr 0 (0 : Nat) 0), (V.ptr 1 (0 : Nat) 0), (V.ptr 3 (0 : Nat) 0), (V.int .i64 4), V.undef, V.undef, V.undef, V.undef, V.undef, V.undef, V.undef, V.undef, V.undef, V.undef, V.undef, V.undef, V.undef, V.undef, V.undef, V.undef, V.undef, V.undef, V.undef, V.undef, V.undef, V.undef, V.undef, V.undef, V.undef, V.undef, V.undef, V.undef, V.undef, V.undef, V.undef, V.undef, V.undef, V.undef, V.undef, V.undef, V.undef, V.undef, V.undef, V.undef, V.undef, V.undef, V.undef], [(0, ⟨false, SRect.sh, [(SRect.row a)], false⟩), (1, ⟨false, SA4_Rect.sh, [[(V.int .i64 0), (V.int .i64 0), (V.int .i64 0), (V.int .i64 0), (V.int .i64 0), (V.int .i64 0), (V.int .i64 0), (V.int .i64 0), (V.int .i64 0), (V.int .i64 0), (V.int .i64 0), (V.int .i64 0), (V.int .i64 0), (V.int .i64 0), (V.int .i64 0), (V.int .i64 0)]], false⟩), (3, ⟨false, SA4_Rect.sh, [[V.int .i64 b, V.int .i64 c, V.int .i64 d, V.int .i64 e, V.int .i64 f, V.int .i64 g, V.int .i64 i, V.int .i64 j, V.int .i64 m, V.int .i64 o, V.int .i64 p, V.int .i64 q, V.int .i64 r, V.int .i64 s, V.int .i64 t, V.int .i64 u]], false⟩)], 11⟩
noncomputable def hook_H7_0 : LoopG R := fun l kn _ kr => match l with
  | .i a :: .i b :: .i c :: .i d :: [] => un_H7_0 (SRect.mk a b c d) kn kr
  | _ => none
noncomputable def env_H7 : Env R := ⟨Try.prog, callCons 37 c_I4 (callCons 89 c_J3 callNil), fun id => bif Nat.beq id 0 then loopAlt shape_H7_0 hook_H7_0 loopNil else (fun _ _ _ _ _ => none) id, Try.f62.results.toList, maskTab 48 [(0, 0x6180006), (1, 0x618000e), (2, 0x618040e), (3, 0x4), (4, 0x618001e), (5, 0x618201e), (6, 0x618001e), (7, 0x618003e), (8, 0x618007e), (9, 0x618001e), (10, 0x4)], maskAt [(1, 11), (2, 2), (4, 5), (6, 8), (8, 10), (10, 15), (12, 51), (14, 17), (16, 24), (18, 31), (20, 54)]⟩
theorem un_H7_0_eq (a : SRect) (kn : St -> Option R) (kx : Nat -> St -> Option R) (kr : V -> Option R) : loopN env_H7 0 (loopAt Try.f62 0) (shape_H7_0.put [.i a.X0, .i a.Y0, .i a.X1, .i a.Y1]) kn kx kr 5 (shape_H7_0.put [.i a.X0, .i a.Y0, .i a.X1, .i a.Y1]) = un_H7_0 a kn kr := by kernel_rfl
theorem goodl_H7_0 {rest} (h : GoodL (R := R) env_H7 0 (loopAt Try.f62 0) rest) : GoodL (R := R) env_H7 0 (loopAt Try.f62 0) (loopAlt shape_H7_0 hook_H7_0 rest) := by
  refine goodL_alt (fun l kn kx kr r h => ?_) h
  unfold hook_H7_0 at h
  split at h
  · rename_i a b c d
    exact ⟨5, (un_H7_0_eq (SRect.mk a b c d) kn kx kr).trans h⟩
  · cases h
theorem good_H7_0 : GoodLoop (R := R) env_H7 0 (loopAt Try.f62 0) := goodL_loop (g := loopAlt shape_H7_0 hook_H7_0 loopNil) (fun _ _ _ _ => rfl) (goodl_H7_0 goodL_nil)
noncomputable def spec_H7 (a : SRect) (k : V -> Option R) : Option R := let b := m_I4 a; bif (!b) then k (V.agg [(V.int .i64 0), (V.int .i64 0), (V.int .i64 0), (V.int .i64 0), (V.int .i64 0), (V.int .i64 0), (V.int .i64 0), (V.int .i64 0), (V.int .i64 0), (V.int .i64 0), (V.int .i64 0), (V.int .i64 0), (V.int .i64 0), (V.int .i64 0), (V.int .i64 0), (V.int .i64 0)]) else let c := m_J3 a.X0 false; let d := m_J3 a.Y0 false; let e := m_J3 a.X1 false; let f := m_J3 a.Y1 false; let g := m_J3 a.X0 true; let i := m_J3 a.Y0 false; let j := m_J3 a.X1 true; let m := m_J3 a.Y1 false; let o := m_J3 a.X0 false; let p := m_J3 a.Y0 true; let q := m_J3 a.X1 false; let r := m_J3 a.Y1 true; let s := m_J3 a.X0 true; let t := m_J3 a.Y0 true; let u := m_J3 a.X1 true; let v := m_J3 a.Y1 true; k (V.agg [V.int .i64 c, V.int .i64 d, V.int .i64 e, V.int .i64 f, V.int .i64 g, V.int .i64 i, V.int .i64 j, V.int .i64 m, V.int .i64 o, V.int .i64 p, V.int .i64 q, V.int .i64 r, V.int .i64 s, V.int .i64 t, V.int .i64 u, V.int .i64 v])
abbrev av_H7 (a : SRect) : List V := [(SRect.v a)]
theorem spec_H7_eq (a : SRect) (k : V -> Option R) : fnK env_H7 Try.f62 (av_H7 a) k = spec_H7 a k := by kernel_rfl
theorem mk_H7 (h_I4 : G_I4) (h_J3 : G_J3) (h : ∀ (a : SRect), Real (av_H7 a) -> spec_H7 a some = some (SA4_Rect.v (m_H7 a))) : G_H7 := goodHook1 fun l hp => by
  unfold hp_H7 at hp
  split at hp
  · rename_i b d f g
    exact fn_ok (fn := Try.f62) (c := bodyOf Try.f62) (E := env_H7) ⟨by kernel_rfl, (goodCons h_I4 (goodCons h_J3 goodNil)), rfl⟩ rfl (by kernel_rfl) (by kernel_rfl) (by kernel_rfl) (loopsOK_of _ (by have e : loopsOf (bodyOf Try.f62) = [(0, loopAt Try.f62 0)] := (by kernel_rfl); rw [e]; simp only [List.forall_mem_cons, List.not_mem_nil, false_implies, implies_true, and_true]; exact good_H7_0)) (fun hr => (spec_H7_eq (SRect.mk b d f g) some).trans (h (SRect.mk b d f g) hr))
  · cases hp
theorem au_H7 (a : SRect) : spec_H7 a some = some ((fun (m : SA4_Rect) => (SA4_Rect.v m)) (m_H7 a)) := by
  repeat' (first | rfl | refine bif_t (v := (fun (m : SA4_Rect) => (SA4_Rect.v m))) ?_ ?_)
theorem good_H7_of (h_I4 : G_I4) (h_J3 : G_J3) : G_H7 := mk_H7 h_I4 h_J3 (fun _ _ => au_H7 _)
noncomputable def env_I5 : Env R := ⟨Try.prog, callCons 58 c_I0 callNil, fun _ _ _ _ _ => none, Try.f98.results.toList, maskTab 31 [(0, 0x7803), (1, 0x8003), (2, 0x70), (3, 0x20003), (4, 0x70), (5, 0x83), (6, 0x70)], maskAt [(2, 3), (4, 11), (6, 14), (8, 16), (10, 20), (12, 24)]⟩
noncomputable def spec_I5 (a b : Int) (k : V -> Option R) : Option R := let d := decide (a < 0); bif (d == false) then let e := m_I0 b; bif (decide (a >= e)) then k (V.tup [(V.int .i64 0), (V.int .i64 0), V.bool false]) else bif (a == 0) then k (V.tup [V.int .i64 b, (V.int .i64 0), V.bool true]) else let f := IntKind.wrap .i64 (a + 2); let c := IntKind.wrap .i64 (Int.tdiv f 3); let g := IntKind.wrap .i64 (b - c); let i := IntKind.wrap .i64 (g + 1); let j := IntKind.wrap .i64 (3 * c); let m := IntKind.wrap .i64 (a - j); let o := IntKind.wrap .i64 (m + 3); k (V.tup [V.int .i64 i, V.int .i64 o, V.bool true]) else k (V.tup [(V.int .i64 0), (V.int .i64 0), V.bool false])
abbrev av_I5 (a b : Int) : List V := [V.int .i64 a, V.int .i64 b]
theorem spec_I5_eq (a b : Int) (k : V -> Option R) : fnK env_I5 Try.f98 (av_I5 a b) k = spec_I5 a b k := by kernel_rfl
theorem mk_I5 (h_I0 : G_I0) (h : ∀ (a b : Int), Real (av_I5 a b) -> spec_I5 a b some = some (V.tup [(V.int .i64 (m_I5 a b).1), (V.int .i64 (m_I5 a b).2.1), (V.bool (m_I5 a b).2.2)])) : G_I5 := goodHook1 fun l hp => by
  unfold hp_I5 at hp
  split at hp
  · rename_i d f
    exact fn_ok (fn := Try.f98) (c := bodyOf Try.f98) (E := env_I5) ⟨by kernel_rfl, (goodCons h_I0 goodNil), rfl⟩ rfl (by kernel_rfl) (by kernel_rfl) (by kernel_rfl) (loopsOK_of _ (by have e : loopsOf (bodyOf Try.f98) = [] := (by kernel_rfl); rw [e]; intro p hp; cases hp)) (fun hr => (spec_I5_eq d f some).trans (h d f hr))
  · cases hp
theorem au_I5 (a b : Int) : spec_I5 a b some = some ((fun (m : Int × Int × Bool) => (V.tup [V.int .i64 m.1, V.int .i64 m.2.1, V.bool m.2.2])) (m_I5 a b)) := by
  repeat' (first | rfl | refine bif_t (v := (fun (m : Int × Int × Bool) => (V.tup [V.int .i64 m.1, V.int .i64 m.2.1, V.bool m.2.2]))) ?_ ?_)
theorem good_I5_of (h_I0 : G_I0) : G_I5 := mk_I5 h_I0 (fun _ _ _ => au_I5 _ _)
noncomputable def env_J5 : Env R := ⟨Try.prog, callCons 37 c_I4 (callCons 60 c_C1 (callCons 62 c_H7 (callCons 98 c_I5 callNil))), fun _ _ _ _ _ => none, Try.f79.results.toList, maskTab 40 [(0, 0x70004e), (1, 0x7003ce), (2, 0x8001ce), (3, 0x40), (4, 0x40001ca), (5, 0x40), (6, 0x40)], maskAt [(2, 2), (4, 12), (6, 19), (8, 21), (10, 23), (12, 27)]⟩
noncomputable def spec_J5 (d : SRect) (c e : Int) (k : V -> Option R) : Option R := let b := m_I5 e c; bif ((!b.2.2) == false) then let f := m_I4 d; bif (!f) then k (V.agg [(V.int .i64 0), (V.int .i64 0), (V.int .i64 0), (V.int .i64 0)]) else bif (e == 0) then let g := m_C1 d c 0; k (SRect.v g) else let i := IntKind.wrap .i64 (c - b.1); let j := IntKind.wrap .i64 (i + 1); let m := m_C1 d c j; let a := m_H7 m; bif (true && (inR b.2.1 (4 : Nat))) then let o : Int := (bif (decide (b.2.1 = ((0 : Nat) : Int))) then a.e0.X0 else (bif (decide (b.2.1 = ((1 : Nat) : Int))) then a.e1.X0 else (bif (decide (b.2.1 = ((2 : Nat) : Int))) then a.e2.X0 else a.e3.X0))); let p : Int := (bif (decide (b.2.1 = ((0 : Nat) : Int))) then a.e0.Y0 else (bif (decide (b.2.1 = ((1 : Nat) : Int))) then a.e1.Y0 else (bif (decide (b.2.1 = ((2 : Nat) : Int))) then a.e2.Y0 else a.e3.Y0))); let q : Int := (bif (decide (b.2.1 = ((0 : Nat) : Int))) then a.e0.X1 else (bif (decide (b.2.1 = ((1 : Nat) : Int))) then a.e1.X1 else (bif (decide (b.2.1 = ((2 : Nat) : Int))) then a.e2.X1 else a.e3.X1))); let r : Int := (bif (decide (b.2.1 = ((0 : Nat) : Int))) then a.e0.Y1 else (bif (decide (b.2.1 = ((1 : Nat) : Int))) then a.e1.Y1 else (bif (decide (b.2.1 = ((2 : Nat) : Int))) then a.e2.Y1 else a.e3.Y1))); k (V.agg [V.int .i64 o, V.int .i64 p, V.int .i64 q, V.int .i64 r]) else none else k (V.agg [(V.int .i64 0), (V.int .i64 0), (V.int .i64 0), (V.int .i64 0)])
abbrev av_J5 (a : SRect) (b c : Int) : List V := [(SRect.v a), V.int .i64 b, V.int .i64 c]
theorem spec_J5_eq (a : SRect) (b c : Int) (k : V -> Option R) : fnK env_J5 Try.f79 (av_J5 a b c) k = spec_J5 a b c k := by kernel_rfl
theorem mk_J5 (h_I4 : G_I4) (h_C1 : G_C1) (h_H7 : G_H7) (h_I5 : G_I5) (h : ∀ (a : SRect) (b d : Int), Real (av_J5 a b d) -> spec_J5 a b d some = some (SRect.v (m_J5 a b d))) : G_J5 := goodHook1 fun l hp => by
  unfold hp_J5 at hp
  split at hp
  · rename_i f g i j m o
    exact fn_ok (fn := Try.f79) (c := bodyOf Try.f79) (E := env_J5) ⟨by kernel_rfl, (goodCons h_I4 (goodCons h_C1 (goodCons h_H7 (goodCons h_I5 goodNil)))), rfl⟩ rfl (by kernel_rfl) (by kernel_rfl) (by kernel_rfl) (loopsOK_of _ (by have e : loopsOf (bodyOf Try.f79) = [] := (by kernel_rfl); rw [e]; intro p hp; cases hp)) (fun hr => (spec_J5_eq (SRect.mk f g i j) m o some).trans (h (SRect.mk f g i j) m o hr))
  · cases hp
theorem au_J5 (a : SRect) (b c : Int) : pre_J5 a b c = true -> spec_J5 a b c some = some ((fun (m : SRect) => (SRect.v m)) (m_J5 a b c)) := by
  repeat' (first | exact fun _ => rfl | exact fun h => absurd h (by decide) | refine bif_p (v := (fun (m : SRect) => (SRect.v m))) ?_ ?_)
theorem good_J5_of (h_I4 : G_I4) (h_C1 : G_C1) (h_H7 : G_H7) (h_I5 : G_I5) : G_J5 := mk_J5 h_I4 h_C1 h_H7 h_I5 (fun _ _ _ _ => au_J5 _ _ _ (pt_J5 _ _ _))
noncomputable def fuel_G8_2 (d e a : Int) (f : SHeader) (b : SParams) (g i : SRect) : Nat := let c := IntKind.wrap .i64 (3 * b.Levels); Int.toNat (c - a) + 2
noncomputable def step_G8_2 (w : Int) (y : SHeader) (a : SParams) (z p : SRect) (d b : Int) (again : Int -> Int -> Option R) (kn : Int -> Int -> Option R) : Option R := let q := IntKind.wrap .i64 (3 * a.Levels); bif (decide (b <= q)) then let r := IntKind.wrap .i64 (b + 2); let c := IntKind.wrap .i64 (Int.tdiv r 3); let e := m_E5 a c; let f := m_J5 p a.Levels b; let s : Int := (bif (decide (1 < c)) then 1 else c); let g := IntKind.wrap .i64 (e.X - s); let i : Int := (bif (decide (g < a.BlockX)) then g else a.BlockX); let t : Int := (bif (decide (1 < c)) then 1 else c); let j := IntKind.wrap .i64 (e.Y - t); let m : Int := (bif (decide (j < a.BlockY)) then j else a.BlockY); bif (pre_J7 f i m) then let o := m_J7 f i m; let u : Int := (bif (decide (o > d)) then o else d); let v := IntKind.wrap .i64 (b + 1); again u v else none else kn d b
noncomputable def loop_G8_2 (a : Int) (b : SHeader) (c : SParams) (d e : SRect) : Nat -> Int -> Int -> (Int -> Int -> Option R) -> Option R
  | 0, _, _, _ => none
  | n + 1, f, g, kn => step_G8_2 a b c d e f g (fun i j => loop_G8_2 a b c d e n i j kn) kn
noncomputable def shape_G8_2 : ST := ⟨unds 3 (.ptr 0 0 0 :: .ptr 1 0 0 :: .ptr 2 0 0 :: .undef :: .int .i64 :: .int .i64 :: .ptr 29 0 0 :: .int .i64 :: unds 61 []), [(0, .var SHeader.sh false SHeader.ts), (1, .var SParams.sh false SParams.ts), (2, .var SRect.sh false SRect.ts), (29, .var SRect.sh false SRect.ts)], 32⟩
noncomputable def st_G8_2 (e : Int) (b : SHeader) (a : SParams) (c d : SRect) (f g : Int) : St := shape_G8_2.put [.i f, .i e, .i g, .i b.Area.X0, .i b.Area.Y0, .i b.Area.X1, .i b.Area.Y1, .i b.TileW, .i b.TileH, .r b.Components, .i a.Kernel, .i a.Levels, .i a.Color, .i a.BlockX, .i a.BlockY, .r a.Precincts, .i a.Order, .i a.Layers, .b a.Mode.Bypass, .b a.Mode.Restart, .b a.Mode.Reset, .b a.Mode.Causal, .b a.Mode.Symbols, .b a.Divide, .b a.Sync, .b a.Fence, .r a.Steps, .i a.Dead, .i a.Shift, .i c.X0, .i c.Y0, .i c.X1, .i c.Y1, .i d.X0, .i d.Y0, .i d.X1, .i d.Y1]
noncomputable def hook_G8_2 : LoopG R := fun l kn _ _ => match l with
  | .i S :: .i a :: .i U :: .i b :: .i c :: .i d :: .i e :: .i f :: .i g :: .r i :: .i j :: .i m :: .i o :: .i p :: .i q :: .r r :: .i s :: .i t :: .b u :: .b v :: .b w :: .b y :: .b z :: .b A :: .b B :: .b D :: .r E :: .i F :: .i H :: .i I :: .i J :: .i K :: .i L :: .i M :: .i N :: .i O :: .i Q :: [] => loop_G8_2 a (SHeader.mk (SRect.mk b c d e) f g i) (SParams.mk j m o p q r s t (SMode.mk u v w y z) A B D E F H) (SRect.mk I J K L) (SRect.mk M N O Q) (fuel_G8_2 S a U (SHeader.mk (SRect.mk b c d e) f g i) (SParams.mk j m o p q r s t (SMode.mk u v w y z) A B D E F H) (SRect.mk I J K L) (SRect.mk M N O Q)) S U (fun W X => kn (st_G8_2 a (SHeader.mk (SRect.mk b c d e) f g i) (SParams.mk j m o p q r s t (SMode.mk u v w y z) A B D E F H) (SRect.mk I J K L) (SRect.mk M N O Q) W X))
  | _ => none
noncomputable def fuel_G8_0 (d a : Int) (b : SHeader) (e : SParams) (f : SRect) : Nat := let c := (((List.length b.Components) : Nat) : Int); Int.toNat (c - a) + 1
noncomputable def step_G8_0 (b : SHeader) (e : SParams) (c : SRect) (d a : Int) (again : Int -> Int -> Option R) (kn : Int -> Int -> Option R) : Option R := let g := (((List.length b.Components) : Nat) : Int); bif (decide (a < g)) then bif (inR a (List.length b.Components)) then let i := List.getD b.Components (Int.toNat a) []; let j := V.toInt (List.getD i 2 V.undef); bif (inR a (List.length b.Components)) then let m := List.getD b.Components (Int.toNat a) []; let o := V.toInt (List.getD m 3 V.undef); let f := m_H0 c j o; loop_G8_2 a b e c f (fuel_G8_2 d a 0 b e c f) d 0 (fun p r => let q := IntKind.wrap .i64 (a + 1); again p q) else none else none else kn d a
noncomputable def loop_G8_0 (a : SHeader) (b : SParams) (c : SRect) : Nat -> Int -> Int -> (Int -> Int -> Option R) -> Option R
  | 0, _, _, _ => none
  | n + 1, d, e, kn => step_G8_0 a b c d e (fun f g => loop_G8_0 a b c n f g kn) kn
noncomputable def shape_G8_0 : ST := ⟨unds 3 (.ptr 0 0 0 :: .ptr 1 0 0 :: .ptr 2 0 0 :: .undef :: .int .i64 :: .int .i64 :: unds 63 []), [(0, .var SHeader.sh false SHeader.ts), (1, .var SParams.sh false SParams.ts), (2, .var SRect.sh false SRect.ts)], 6⟩
noncomputable def st_G8_0 (b : SHeader) (a : SParams) (c : SRect) (d e : Int) : St := shape_G8_0.put [.i d, .i e, .i b.Area.X0, .i b.Area.Y0, .i b.Area.X1, .i b.Area.Y1, .i b.TileW, .i b.TileH, .r b.Components, .i a.Kernel, .i a.Levels, .i a.Color, .i a.BlockX, .i a.BlockY, .r a.Precincts, .i a.Order, .i a.Layers, .b a.Mode.Bypass, .b a.Mode.Restart, .b a.Mode.Reset, .b a.Mode.Causal, .b a.Mode.Symbols, .b a.Divide, .b a.Sync, .b a.Fence, .r a.Steps, .i a.Dead, .i a.Shift, .i c.X0, .i c.Y0, .i c.X1, .i c.Y1]
noncomputable def hook_G8_0 : LoopG R := fun l kn _ _ => match l with
  | .i L :: .i M :: .i a :: .i b :: .i c :: .i d :: .i e :: .i f :: .r g :: .i i :: .i j :: .i m :: .i o :: .i p :: .r q :: .i r :: .i s :: .b t :: .b u :: .b v :: .b w :: .b y :: .b z :: .b A :: .b B :: .r D :: .i E :: .i F :: .i H :: .i I :: .i J :: .i K :: [] => loop_G8_0 (SHeader.mk (SRect.mk a b c d) e f g) (SParams.mk i j m o p q r s (SMode.mk t u v w y) z A B D E F) (SRect.mk H I J K) (fuel_G8_0 L M (SHeader.mk (SRect.mk a b c d) e f g) (SParams.mk i j m o p q r s (SMode.mk t u v w y) z A B D E F) (SRect.mk H I J K)) L M (fun N O => kn (st_G8_0 (SHeader.mk (SRect.mk a b c d) e f g) (SParams.mk i j m o p q r s (SMode.mk t u v w y) z A B D E F) (SRect.mk H I J K) N O))
  | _ => none
noncomputable def env_G8 : Env R := ⟨Try.prog, callCons 43 c_H0 (callCons 77 c_E5 (callCons 78 c_J7 (callCons 79 c_J5 callNil))), fun id => bif Nat.beq id 2 then loopAlt shape_G8_2 hook_G8_2 loopNil else (fun id => bif Nat.beq id 0 then loopAlt shape_G8_0 hook_G8_0 loopNil else (fun _ _ _ _ _ => none) id) id, Try.f50.results.toList, maskTab 72 [(0, 0x38), (1, 0xb8), (2, 0x1b8), (3, 0x201b8), (4, 0x1b8), (5, 0x3b8), (6, 0x7b8), (7, 0x40000007b8), (8, 0x7b8), (9, 0xfb8), (10, 0x1fb8), (11, 0x7b8), (12, 0x40)], maskAt [(1, 6), (2, 4), (4, 5), (5, 32), (6, 10), (8, 78), (10, 15), (12, 31), (14, 36), (16, 75), (18, 41), (20, 45), (22, 50), (24, 81)]⟩
theorem step_G8_2_eq (a : Int) (b : SHeader) (c : SParams) (d e : SRect) (i j : Int) (kn : St -> Option R) (kx : Nat -> St -> Option R) (kr : V -> Option R) (n : Nat) (m o : Int) :
    loopN env_G8 2 (loopAt Try.f50 1) (st_G8_2 a b c d e i j) kn kx kr (n + 1) (st_G8_2 a b c d e m o) =
    step_G8_2 a b c d e m o (fun f g => loopN env_G8 2 (loopAt Try.f50 1) (st_G8_2 a b c d e i j) kn kx kr n (st_G8_2 a b c d e f g)) (fun f g => kn (st_G8_2 a b c d e f g)) := by kernel_rfl
theorem loop_G8_2_eq (a : Int) (b : SHeader) (c : SParams) (d e : SRect) (m o : Int) (kn : St -> Option R) (kx : Nat -> St -> Option R) (kr : V -> Option R) : ∀ (n : Nat) (f g : Int),
    loop_G8_2 a b c d e n f g (fun i j => kn (st_G8_2 a b c d e i j)) = loopN env_G8 2 (loopAt Try.f50 1) (st_G8_2 a b c d e m o) kn kx kr n (st_G8_2 a b c d e f g)
  | 0, _, _ => rfl
  | n + 1, f, g => by
    rw [step_G8_2_eq, loop_G8_2]
    congr 1
    funext i j
    exact loop_G8_2_eq a b c d e m o kn kx kr n i j
theorem goodl_G8_2 {rest} (h : GoodL (R := R) env_G8 2 (loopAt Try.f50 1) rest) : GoodL (R := R) env_G8 2 (loopAt Try.f50 1) (loopAlt shape_G8_2 hook_G8_2 rest) := by
  refine goodL_alt (fun l kn kx kr r h => ?_) h
  unfold hook_G8_2 at h
  split at h
  · rename_i a c b d e f g i j m o p q s t u v w y z A B D E F H I J K L M N O Q S U W
    exact ⟨_, (loop_G8_2_eq c (SHeader.mk (SRect.mk d e f g) i j m) (SParams.mk o p q s t u v w (SMode.mk y z A B D) E F H I J K) (SRect.mk L M N O) (SRect.mk Q S U W) a b kn kx kr _ a b).symm.trans h⟩
  · cases h
theorem step_G8_0_eq (a : SHeader) (b : SParams) (c : SRect) (f g : Int) (kn : St -> Option R) (kx : Nat -> St -> Option R) (kr : V -> Option R) (n : Nat) (i j : Int) :
    loopN env_G8 0 (loopAt Try.f50 0) (st_G8_0 a b c f g) kn kx kr (n + 1) (st_G8_0 a b c i j) =
    step_G8_0 a b c i j (fun d e => loopN env_G8 0 (loopAt Try.f50 0) (st_G8_0 a b c f g) kn kx kr n (st_G8_0 a b c d e)) (fun d e => kn (st_G8_0 a b c d e)) := by kernel_rfl
theorem loop_G8_0_eq (a : SHeader) (b : SParams) (c : SRect) (i j : Int) (kn : St -> Option R) (kx : Nat -> St -> Option R) (kr : V -> Option R) : ∀ (n : Nat) (d e : Int),
    loop_G8_0 a b c n d e (fun f g => kn (st_G8_0 a b c f g)) = loopN env_G8 0 (loopAt Try.f50 0) (st_G8_0 a b c i j) kn kx kr n (st_G8_0 a b c d e)
  | 0, _, _ => rfl
  | n + 1, d, e => by
    rw [step_G8_0_eq, loop_G8_0]
    congr 1
    funext f g
    exact loop_G8_0_eq a b c i j kn kx kr n f g
theorem goodl_G8_0 {rest} (h : GoodL (R := R) env_G8 0 (loopAt Try.f50 0) rest) : GoodL (R := R) env_G8 0 (loopAt Try.f50 0) (loopAlt shape_G8_0 hook_G8_0 rest) := by
  refine goodL_alt (fun l kn kx kr r h => ?_) h
  unfold hook_G8_0 at h
  split at h
  · rename_i a b c d e f g i j m o p q s t u v w y z A B D E F H I J K L M N
    exact ⟨_, (loop_G8_0_eq (SHeader.mk (SRect.mk c d e f) g i j) (SParams.mk m o p q s t u v (SMode.mk w y z A B) D E F H I J) (SRect.mk K L M N) a b kn kx kr _ a b).symm.trans h⟩
  · cases h
theorem good_G8_0 : GoodLoop (R := R) env_G8 0 (loopAt Try.f50 0) := goodL_loop (g := loopAlt shape_G8_0 hook_G8_0 loopNil) (fun _ _ _ _ => rfl) (goodl_G8_0 goodL_nil)
theorem good_G8_2 : GoodLoop (R := R) env_G8 2 (loopAt Try.f50 1) := goodL_loop (g := loopAlt shape_G8_2 hook_G8_2 loopNil) (fun _ _ _ _ => rfl) (goodl_G8_2 goodL_nil)
noncomputable def spec_G8 (a : SHeader) (b : SParams) (c : SRect) (k : V -> Option R) : Option R := loop_G8_0 a b c (fuel_G8_0 0 0 a b c) 0 0 (fun d e => k (V.int .i64 d))
abbrev av_G8 (a : SHeader) (b : SParams) (c : SRect) : List V := [(SHeader.v a), (SParams.v b), (SRect.v c)]
theorem spec_G8_eq (a : SHeader) (b : SParams) (c : SRect) (k : V -> Option R) : fnK env_G8 Try.f50 (av_G8 a b c) k = spec_G8 a b c k := by kernel_rfl
theorem mk_G8 (h_H0 : G_H0) (h_E5 : G_E5) (h_J7 : G_J7) (h_J5 : G_J5) (h : ∀ (a : SHeader) (b : SParams) (d : SRect), pre_G8 a b d = true -> Real (av_G8 a b d) -> spec_G8 a b d some = some (V.int .i64 (m_G8 a b d))) : G_G8 := goodHook1 fun l hp => by
  unfold hp_G8 at hp
  split at hp
  · rename_i f g i j m o p q r s t u v w y z A B D F H I J K L M N O Q S
    exact fn_ok (fn := Try.f50) (c := bodyOf Try.f50) (E := env_G8) ⟨by kernel_rfl, (goodCons h_H0 (goodCons h_E5 (goodCons h_J7 (goodCons h_J5 goodNil)))), rfl⟩ rfl (by kernel_rfl) (by kernel_rfl) (by kernel_rfl) (loopsOK_of _ (by have e : loopsOf (bodyOf Try.f50) = [(0, loopAt Try.f50 0), (2, loopAt Try.f50 1)] := (by kernel_rfl); rw [e]; simp only [List.forall_mem_cons, List.not_mem_nil, false_implies, implies_true, and_true]; exact ⟨good_G8_0, good_G8_2⟩)) (fun hr => (spec_G8_eq (SHeader.mk (SRect.mk f g i j) m o p) (SParams.mk q r s t u v w y (SMode.mk z A B D F) H I J K L M) (SRect.mk N O Q S) some).trans (h (SHeader.mk (SRect.mk f g i j) m o p) (SParams.mk q r s t u v w y (SMode.mk z A B D F) H I J K L M) (SRect.mk N O Q S) hp hr))
  · cases hp
end Go.Vm
