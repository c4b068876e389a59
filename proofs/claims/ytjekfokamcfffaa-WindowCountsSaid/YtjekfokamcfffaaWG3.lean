import Derived.Test.YtjekfokamcfffaaWM
set_option linter.unusedVariables false
set_option linter.unusedSimpArgs false
set_option maxRecDepth 100000
noncomputable section
namespace Go.Vm
open Go.Proofs
variable {R : Type}
noncomputable def fuel_G5_2 (c d e a f g b : Int) (i : SRect) (j : Rows) : Nat := Int.toNat (a - b) + 1
noncomputable def step_G5_2 (c d u f v e : Int) (g : SRect) (a : Int) (b : Rows) (again : Int -> Rows -> Option R) (kn : Int -> Rows -> Option R) : Option R := bif (decide (a < f)) then let i := IntKind.wrap .i64 (a * c); let j := IntKind.wrap .i64 (e * d); let m := IntKind.wrap .i64 (a + 1); let o := IntKind.wrap .i64 (m * c); let p := IntKind.wrap .i64 (e + 1); let q := IntKind.wrap .i64 (p * d); let r := m_C6 g (SRect.mk i j o q); bif (roomOK ((List.length b) + (1 : Nat)) 32) then let s := b ++ [(SRect.row r)]; let t := IntKind.wrap .i64 (a + 1); again t s else none else kn a b
noncomputable def loop_G5_2 (a b c d e f : Int) (g : SRect) : Nat -> Int -> Rows -> (Int -> Rows -> Option R) -> Option R
  | 0, _, _, _ => none
  | n + 1, i, j, kn => step_G5_2 a b c d e f g i j (fun m o => loop_G5_2 a b c d e f g n m o kn) kn
noncomputable def shape_G5_2 : ST := ⟨.undef :: .int .i64 :: .int .i64 :: .ptr 0 0 0 :: unds 3 (.int .i64 :: .int .i64 :: .undef :: .int .i64 :: .vs 50 :: .int .i64 :: .int .i64 :: unds 72 []), [(0, .var SRect.sh false SRect.ts), (50, .vec SRect.sh false)], 59⟩
noncomputable def st_G5_2 (b c d e f g : Int) (a : SRect) (i : Int) (j : Rows) : St := shape_G5_2.put [.i b, .i c, .i d, .i e, .i f, .i g, .i i, .i a.X0, .i a.Y0, .i a.X1, .i a.Y1, .r j]
noncomputable def hook_G5_2 : LoopG R := fun l kn _ _ => match l with
  | .i a :: .i b :: .i c :: .i d :: .i e :: .i f :: .i o :: .i g :: .i i :: .i j :: .i m :: .r p :: [] => loop_G5_2 a b c d e f (SRect.mk g i j m) (fuel_G5_2 a b c d e f o (SRect.mk g i j m) p) o p (fun q r => kn (st_G5_2 a b c d e f (SRect.mk g i j m) q r))
  | _ => none
noncomputable def fuel_G5_0 (c d e f a b : Int) (g : SRect) (i : Rows) : Nat := Int.toNat (a - b) + 1
noncomputable def step_G5_0 (e f b g c : Int) (i : SRect) (a : Int) (d : Rows) (again : Int -> Rows -> Option R) (kn : Int -> Rows -> Option R) : Option R := bif (decide (a < c)) then loop_G5_2 e f b g c a i (fuel_G5_2 e f b g c a b i d) b d (fun o j => let m := IntKind.wrap .i64 (a + 1); again m j) else kn a d
noncomputable def loop_G5_0 (a b c d e : Int) (f : SRect) : Nat -> Int -> Rows -> (Int -> Rows -> Option R) -> Option R
  | 0, _, _, _ => none
  | n + 1, g, i, kn => step_G5_0 a b c d e f g i (fun j m => loop_G5_0 a b c d e f n j m kn) kn
noncomputable def shape_G5_0 : ST := ⟨.undef :: .int .i64 :: .int .i64 :: .ptr 0 0 0 :: unds 3 (.int .i64 :: .int .i64 :: .undef :: .int .i64 :: .vs 50 :: .int .i64 :: unds 73 []), [(0, .var SRect.sh false SRect.ts), (50, .vec SRect.sh false)], 51⟩
noncomputable def st_G5_0 (b c d e f : Int) (a : SRect) (g : Int) (i : Rows) : St := shape_G5_0.put [.i b, .i c, .i d, .i e, .i f, .i g, .i a.X0, .i a.Y0, .i a.X1, .i a.Y1, .r i]
noncomputable def hook_G5_0 : LoopG R := fun l kn _ _ => match l with
  | .i a :: .i b :: .i c :: .i d :: .i e :: .i m :: .i f :: .i g :: .i i :: .i j :: .r o :: [] => loop_G5_0 a b c d e (SRect.mk f g i j) (fuel_G5_0 a b c d e m (SRect.mk f g i j) o) m o (fun p q => kn (st_G5_0 a b c d e (SRect.mk f g i j) p q))
  | _ => none
noncomputable def env_G5 : Env R := ⟨Try.prog, callCons 34 c_H1 (callCons 35 c_H2 (callCons 36 c_C6 (callCons 66 c_E3 (callCons 67 c_D1 callNil)))), fun id => bif Nat.beq id 2 then loopAlt shape_G5_2 hook_G5_2 loopNil else (fun id => bif Nat.beq id 0 then loopAlt shape_G5_0 hook_G5_0 loopNil else (fun _ _ _ _ _ => none) id) id, Try.f55.results.toList, maskTab 86 [(0, 0xccc000e), (1, 0x1000000e), (2, 0x40), (3, 0x18e), (4, 0x78e), (5, 0x1000000000078e), (6, 0x40), (7, 0xf8e), (8, 0x1d8e), (9, 0x100000000001d8e), (10, 0x1d8e), (11, 0x3d8e), (12, 0x4000000000003d8e), (13, 0x3d8e), (14, 0x3d8e), (15, 0x40)], maskAt [(1, 50), (2, 2), (4, 17), (5, 59), (6, 18), (8, 28), (10, 38), (12, 46), (14, 47), (16, 48), (18, 54), (20, 90), (22, 57), (24, 63), (26, 87), (28, 66), (30, 93)]⟩
theorem step_G5_2_eq (a b c d e f : Int) (g : SRect) (m : Int) (o : Rows) (kn : St -> Option R) (kx : Nat -> St -> Option R) (kr : V -> Option R) (n : Nat) (p : Int) (q : Rows) :
    loopN env_G5 2 (loopAt Try.f55 1) (st_G5_2 a b c d e f g m o) kn kx kr (n + 1) (st_G5_2 a b c d e f g p q) =
    step_G5_2 a b c d e f g p q (fun i j => loopN env_G5 2 (loopAt Try.f55 1) (st_G5_2 a b c d e f g m o) kn kx kr n (st_G5_2 a b c d e f g i j)) (fun i j => kn (st_G5_2 a b c d e f g i j)) := by kernel_rfl
theorem loop_G5_2_eq (a b c d e f : Int) (g : SRect) (p : Int) (q : Rows) (kn : St -> Option R) (kx : Nat -> St -> Option R) (kr : V -> Option R) : ∀ (n : Nat) (i : Int) (j : Rows),
    loop_G5_2 a b c d e f g n i j (fun m o => kn (st_G5_2 a b c d e f g m o)) = loopN env_G5 2 (loopAt Try.f55 1) (st_G5_2 a b c d e f g p q) kn kx kr n (st_G5_2 a b c d e f g i j)
  | 0, _, _ => rfl
  | n + 1, i, j => by
    rw [step_G5_2_eq, loop_G5_2]
    congr 1
    funext m o
    exact loop_G5_2_eq a b c d e f g p q kn kx kr n m o
theorem goodl_G5_2 {rest} (h : GoodL (R := R) env_G5 2 (loopAt Try.f55 1) rest) : GoodL (R := R) env_G5 2 (loopAt Try.f55 1) (loopAlt shape_G5_2 hook_G5_2 rest) := by
  refine goodL_alt (fun l kn kx kr r h => ?_) h
  unfold hook_G5_2 at h
  split at h
  · rename_i c d e f g i a j m o p b
    exact ⟨_, (loop_G5_2_eq c d e f g i (SRect.mk j m o p) a b kn kx kr _ a b).symm.trans h⟩
  · cases h
theorem step_G5_0_eq (a b c d e : Int) (f : SRect) (j : Int) (m : Rows) (kn : St -> Option R) (kx : Nat -> St -> Option R) (kr : V -> Option R) (n : Nat) (o : Int) (p : Rows) :
    loopN env_G5 0 (loopAt Try.f55 0) (st_G5_0 a b c d e f j m) kn kx kr (n + 1) (st_G5_0 a b c d e f o p) =
    step_G5_0 a b c d e f o p (fun g i => loopN env_G5 0 (loopAt Try.f55 0) (st_G5_0 a b c d e f j m) kn kx kr n (st_G5_0 a b c d e f g i)) (fun g i => kn (st_G5_0 a b c d e f g i)) := by kernel_rfl
theorem loop_G5_0_eq (a b c d e : Int) (f : SRect) (o : Int) (p : Rows) (kn : St -> Option R) (kx : Nat -> St -> Option R) (kr : V -> Option R) : ∀ (n : Nat) (g : Int) (i : Rows),
    loop_G5_0 a b c d e f n g i (fun j m => kn (st_G5_0 a b c d e f j m)) = loopN env_G5 0 (loopAt Try.f55 0) (st_G5_0 a b c d e f o p) kn kx kr n (st_G5_0 a b c d e f g i)
  | 0, _, _ => rfl
  | n + 1, g, i => by
    rw [step_G5_0_eq, loop_G5_0]
    congr 1
    funext j m
    exact loop_G5_0_eq a b c d e f o p kn kx kr n j m
theorem goodl_G5_0 {rest} (h : GoodL (R := R) env_G5 0 (loopAt Try.f55 0) rest) : GoodL (R := R) env_G5 0 (loopAt Try.f55 0) (loopAlt shape_G5_0 hook_G5_0 rest) := by
  refine goodL_alt (fun l kn kx kr r h => ?_) h
  unfold hook_G5_0 at h
  split at h
  · rename_i c d e f g a i j m o b
    exact ⟨_, (loop_G5_0_eq c d e f g (SRect.mk i j m o) a b kn kx kr _ a b).symm.trans h⟩
  · cases h
theorem good_G5_0 : GoodLoop (R := R) env_G5 0 (loopAt Try.f55 0) := goodL_loop (g := loopAlt shape_G5_0 hook_G5_0 loopNil) (fun _ _ _ _ => rfl) (goodl_G5_0 goodL_nil)
theorem good_G5_2 : GoodLoop (R := R) env_G5 2 (loopAt Try.f55 1) := goodL_loop (g := loopAlt shape_G5_2 hook_G5_2 loopNil) (fun _ _ _ _ => rfl) (goodl_G5_2 goodL_nil)
noncomputable def spec_G5 (a : SRect) (b c : Int) (k : V -> Option R) : Option R := let i := m_H1 a; bif ((!i) == false) then let j := m_H2 a; let m := decide (b < 1); let o : Bool := (bif j then true else m); let p := decide (c < 1); let q : Bool := (bif o then true else p); bif q then k (V.data SRect.sh []) else let d := m_D1 a.X0 b; let e := m_E3 a.X1 b; let f := m_D1 a.Y0 c; let g := m_E3 a.Y1 c; let r := IntKind.wrap .i64 (e - d); let s := IntKind.wrap .i64 (g - f); let t := IntKind.wrap .i64 (r * s); let u := decide (t > 65536); bif u then k (V.data SRect.sh []) else loop_G5_0 b c d e g a (fuel_G5_0 b c d e g f a []) f [] (fun w v => k (V.data SRect.sh v)) else k (V.data SRect.sh [])
abbrev av_G5 (a : SRect) (b c : Int) : List V := [(SRect.v a), V.int .i64 b, V.int .i64 c]
theorem spec_G5_eq (a : SRect) (b c : Int) (k : V -> Option R) : fnK env_G5 Try.f55 (av_G5 a b c) k = spec_G5 a b c k := by kernel_rfl
theorem mk_G5 (h_H1 : G_H1) (h_H2 : G_H2) (h_C6 : G_C6) (h_E3 : G_E3) (h_D1 : G_D1) (h : ∀ (a : SRect) (b d : Int), Real (av_G5 a b d) -> spec_G5 a b d some = some (V.data SRect.sh (m_G5 a b d))) : G_G5 := goodHook1 fun l hp => by
  unfold hp_G5 at hp
  split at hp
  · rename_i f g i j m o
    exact fn_ok (fn := Try.f55) (c := bodyOf Try.f55) (E := env_G5) ⟨by kernel_rfl, (goodCons h_H1 (goodCons h_H2 (goodCons h_C6 (goodCons h_E3 (goodCons h_D1 goodNil))))), rfl⟩ rfl (by kernel_rfl) (by kernel_rfl) (by kernel_rfl) (loopsOK_of _ (by have e : loopsOf (bodyOf Try.f55) = [(0, loopAt Try.f55 0), (2, loopAt Try.f55 1)] := (by kernel_rfl); rw [e]; simp only [List.forall_mem_cons, List.not_mem_nil, false_implies, implies_true, and_true]; exact ⟨good_G5_0, good_G5_2⟩)) (fun hr => (spec_G5_eq (SRect.mk f g i j) m o some).trans (h (SRect.mk f g i j) m o hr))
  · cases hp
noncomputable def env_E7 : Env R := ⟨Try.prog, callCons 33 c_C9 (callCons 55 c_G5 callNil), fun _ _ _ _ _ => none, Try.f24.results.toList, maskTab 13 [(0, 0x2), (1, 0x22), (2, 0x4), (3, 0x4)], maskAt [(2, 2), (4, 5), (6, 6)]⟩
noncomputable def spec_E7 (a : SHeader) (k : V -> Option R) : Option R := let b := m_C9 a; bif (b != 0) then k (V.data SRect.sh []) else let c := m_G5 a.Area a.TileW a.TileH; k (V.data SRect.sh c)
abbrev av_E7 (a : SHeader) : List V := [(SHeader.v a)]
theorem spec_E7_eq (a : SHeader) (k : V -> Option R) : fnK env_E7 Try.f24 (av_E7 a) k = spec_E7 a k := by kernel_rfl
theorem mk_E7 (h_C9 : G_C9) (h_G5 : G_G5) (h : ∀ (a : SHeader), Real (av_E7 a) -> spec_E7 a some = some (V.data SRect.sh (m_E7 a))) : G_E7 := goodHook1 fun l hp => by
  unfold hp_E7 at hp
  split at hp
  · rename_i b d f g i j m
    exact fn_ok (fn := Try.f24) (c := bodyOf Try.f24) (E := env_E7) ⟨by kernel_rfl, (goodCons h_C9 (goodCons h_G5 goodNil)), rfl⟩ rfl (by kernel_rfl) (by kernel_rfl) (by kernel_rfl) (loopsOK_of _ (by have e : loopsOf (bodyOf Try.f24) = [] := (by kernel_rfl); rw [e]; intro p hp; cases hp)) (fun hr => (spec_E7_eq (SHeader.mk (SRect.mk b d f g) i j m) some).trans (h (SHeader.mk (SRect.mk b d f g) i j m) hr))
  · cases hp
theorem au_E7 (a : SHeader) : spec_E7 a some = some ((fun (m : Rows) => (V.data SRect.sh m)) (m_E7 a)) := by
  repeat' (first | rfl | refine bif_t (v := (fun (m : Rows) => (V.data SRect.sh m))) ?_ ?_)
theorem good_E7_of (h_C9 : G_C9) (h_G5 : G_G5) : G_E7 := mk_E7 h_C9 h_G5 (fun _ _ => au_E7 _)
noncomputable def fuel_C5_0 (c : Rows) (a b : Int) (d : SHeader) (e : SParams) : Nat := Int.toNat (a - b) + 1
noncomputable def step_C5_0 (c : Rows) (e : Int) (j : SHeader) (m : SParams) (a : Int) (again : Int -> Option R) (kn : Int -> Option R) (kr : V -> Option R) : Option R := bif (decide (a < e)) then bif (inR a (List.length c)) then let f := List.getD c (Int.toNat a) []; let b := SPoint.of f; let d : Int := (bif (decide (1 < a)) then 1 else a); bif (pre_D8 d 12 [[V.int .i64 b.X], [V.int .i64 b.Y]]) then let g := m_D8 d 12 [[V.int .i64 b.X], [V.int .i64 b.Y]]; bif (!g) then kr (V.bool false) else let i := IntKind.wrap .i64 (a + 1); again i else none else none else kn a
noncomputable def loop_C5_0 (a : Rows) (b : Int) (c : SHeader) (d : SParams) : Nat -> Int -> (Int -> Option R) -> (V -> Option R) -> Option R
  | 0, _, _, _ => none
  | n + 1, e, kn, kr => step_C5_0 a b c d e (fun f => loop_C5_0 a b c d n f kn kr) kn kr
noncomputable def shape_C5_0 : ST := ⟨.undef :: .undef :: .ptr 0 0 0 :: .ptr 1 0 0 :: unds 32 (.data SSpan.sh :: .int .i64 :: .int .i64 :: unds 75 []), [(0, .var SHeader.sh false SHeader.ts), (1, .var SParams.sh false SParams.ts)], 36⟩
noncomputable def st_C5_0 (c : Rows) (d : Int) (b : SHeader) (a : SParams) (e : Int) : St := shape_C5_0.put [.r c, .i d, .i e, .i b.Area.X0, .i b.Area.Y0, .i b.Area.X1, .i b.Area.Y1, .i b.TileW, .i b.TileH, .r b.Components, .i a.Kernel, .i a.Levels, .i a.Color, .i a.BlockX, .i a.BlockY, .r a.Precincts, .i a.Order, .i a.Layers, .b a.Mode.Bypass, .b a.Mode.Restart, .b a.Mode.Reset, .b a.Mode.Causal, .b a.Mode.Symbols, .b a.Divide, .b a.Sync, .b a.Fence, .r a.Steps, .i a.Dead, .i a.Shift]
noncomputable def hook_C5_0 : LoopG R := fun l kn _ kr => match l with
  | .r a :: .i b :: .i J :: .i c :: .i d :: .i e :: .i f :: .i g :: .i i :: .r j :: .i m :: .i o :: .i p :: .i q :: .i r :: .r s :: .i t :: .i u :: .b v :: .b w :: .b y :: .b z :: .b A :: .b B :: .b D :: .b E :: .r F :: .i H :: .i I :: [] => loop_C5_0 a b (SHeader.mk (SRect.mk c d e f) g i j) (SParams.mk m o p q r s t u (SMode.mk v w y z A) B D E F H I) (fuel_C5_0 a b J (SHeader.mk (SRect.mk c d e f) g i j) (SParams.mk m o p q r s t u (SMode.mk v w y z A) B D E F H I)) J (fun K => kn (st_C5_0 a b (SHeader.mk (SRect.mk c d e f) g i j) (SParams.mk m o p q r s t u (SMode.mk v w y z A) B D E F H I) K)) kr
  | _ => none
noncomputable def env_C5 : Env R := ⟨Try.prog, callCons 65 c_D8 callNil, fun id => bif Nat.beq id 0 then loopAlt shape_C5_0 hook_C5_0 loopNil else (fun _ _ _ _ _ => none) id, Try.f80.results.toList, maskTab 114 [(0, 0x1fffff01f01e7f8000003f81fc00c), (1, 0x1fffff01f01e7f8000003f820000c), (2, 0x10), (3, 0x1fffff01f01e7f80000040000000c), (4, 0x10), (5, 0x1fffff01f01e7f80000700000000c), (6, 0x1fffff01f01e7f80000f00000000c), (7, 0x1fffff01f01e7f80000700000006c), (8, 0x1fffff01f01e7f80800700000000c), (9, 0x10), (10, 0x1fffff01f01e7f80000700000000c), (11, 0x1fffff01f0200000000000000000c), (12, 0x10), (13, 0x1fffff0200000000000000000000c), (14, 0x10), (15, 0x1fffff00000000000000000000088), (16, 0x10)], maskAt [(1, 36), (2, 3), (4, 17), (6, 18), (8, 31), (10, 32), (12, 40), (14, 41), (16, 47), (18, 56), (20, 57), (22, 59), (24, 80), (26, 81), (28, 93), (30, 94), (32, 97)]⟩
theorem step_C5_0_eq (a : Rows) (b : Int) (c : SHeader) (d : SParams) (f : Int) (kn : St -> Option R) (kx : Nat -> St -> Option R) (kr : V -> Option R) (n : Nat) (g : Int) :
    loopN env_C5 0 (loopAt Try.f80 0) (st_C5_0 a b c d f) kn kx kr (n + 1) (st_C5_0 a b c d g) =
    step_C5_0 a b c d g (fun e => loopN env_C5 0 (loopAt Try.f80 0) (st_C5_0 a b c d f) kn kx kr n (st_C5_0 a b c d e)) (fun e => kn (st_C5_0 a b c d e)) kr := by kernel_rfl
theorem loop_C5_0_eq (a : Rows) (b : Int) (c : SHeader) (d : SParams) (g : Int) (kn : St -> Option R) (kx : Nat -> St -> Option R) (kr : V -> Option R) : ∀ (n : Nat) (e : Int),
    loop_C5_0 a b c d n e (fun f => kn (st_C5_0 a b c d f)) kr = loopN env_C5 0 (loopAt Try.f80 0) (st_C5_0 a b c d g) kn kx kr n (st_C5_0 a b c d e)
  | 0, _ => rfl
  | n + 1, e => by
    rw [step_C5_0_eq, loop_C5_0]
    congr 1
    funext f
    exact loop_C5_0_eq a b c d g kn kx kr n f
theorem goodl_C5_0 {rest} (h : GoodL (R := R) env_C5 0 (loopAt Try.f80 0) rest) : GoodL (R := R) env_C5 0 (loopAt Try.f80 0) (loopAlt shape_C5_0 hook_C5_0 rest) := by
  refine goodL_alt (fun l kn kx kr r h => ?_) h
  unfold hook_C5_0 at h
  split at h
  · rename_i b c a d e f g i j m o p q s t u v w y z A B D E F H I J K
    exact ⟨_, (loop_C5_0_eq b c (SHeader.mk (SRect.mk d e f g) i j m) (SParams.mk o p q s t u v w (SMode.mk y z A B D) E F H I J K) a kn kx kr _ a).symm.trans h⟩
  · cases h
theorem good_C5_0 : GoodLoop (R := R) env_C5 0 (loopAt Try.f80 0) := goodL_loop (g := loopAlt shape_C5_0 hook_C5_0 loopNil) (fun _ _ _ _ => rfl) (goodl_C5_0 goodL_nil)
noncomputable def spec_C5 (b : SHeader) (a : SParams) (k : V -> Option R) : Option R := bif (pre_D8 0 5 [[V.int .i64 a.Levels]]) then let u := m_D8 0 5 [[V.int .i64 a.Levels]]; bif ((!u) == false) then bif (pre_D8 2 6 [[V.int .i64 a.BlockX], [V.int .i64 a.BlockY]]) then let v := m_D8 2 6 [[V.int .i64 a.BlockX], [V.int .i64 a.BlockY]]; bif (!v) then k (V.bool false) else let w := (((List.length a.Precincts) : Nat) : Int); bif ((w != 0) == true) then let y := (((List.length a.Precincts) : Nat) : Int); let z := IntKind.wrap .i64 (a.Levels + 1); bif (y != z) then k (V.bool false) else let s := (((List.length a.Precincts) : Nat) : Int); loop_C5_0 a.Precincts s b a (fuel_C5_0 a.Precincts s 0 b a) 0 (fun b0 => bif (pre_D8 1 16 [[V.int .i64 a.Layers]]) then let A := m_D8 1 16 [[V.int .i64 a.Layers]]; bif ((!A) == false) then let B := (((List.length a.Steps) : Nat) : Int); let D := IntKind.wrap .i64 (3 * a.Levels); let E := IntKind.wrap .i64 (D + 1); bif ((B != E) == false) then bif (pre_D8 1 65536 a.Steps) then let F := m_D8 1 65536 a.Steps; bif (!F) then k (V.bool false) else bif (pre_D8 8 32 [[V.int .i64 a.Dead]]) then let H := m_D8 8 32 [[V.int .i64 a.Dead]]; bif ((!H) == false) then bif (pre_D8 0 30 [[V.int .i64 a.Shift]]) then let I := m_D8 0 30 [[V.int .i64 a.Shift]]; bif (!I) then k (V.bool false) else bif ((a.Color == 0) == false) then let J := (((List.length b.Components) : Nat) : Int); let o := decide (J >= 3); bif ((inR 0 (List.length b.Components)) || !(o == true)) then let K := List.getD b.Components (0 : Nat) []; let c := SComponent.of K; bif ((inR 1 (List.length b.Components)) || !(o == true)) then let L := List.getD b.Components (1 : Nat) []; let d := SComponent.of L; let M := (c.Depth == d.Depth) && ((c.Signed == d.Signed) && ((c.DX == d.DX) && ((c.DY == d.DY) && true))); let p : Bool := (bif o then M else false); bif ((inR 0 (List.length b.Components)) || !(p == true)) then let N := List.getD b.Components (0 : Nat) []; let e := SComponent.of N; bif ((inR 2 (List.length b.Components)) || !(p == true)) then let O := List.getD b.Components (2 : Nat) []; let f := SComponent.of O; let Q := (e.Depth == f.Depth) && ((e.Signed == f.Signed) && ((e.DX == f.DX) && ((e.DY == f.DY) && true))); let S : Bool := (bif p then Q else false); k (V.bool S) else none else none else none else none else k (V.bool true) else none else k (V.bool false) else none else none else k (V.bool false) else k (V.bool false) else none) k else let t := (((List.length a.Precincts) : Nat) : Int); loop_C5_0 a.Precincts t b a (fuel_C5_0 a.Precincts t 0 b a) 0 (fun b1 => bif (pre_D8 1 16 [[V.int .i64 a.Layers]]) then let U := m_D8 1 16 [[V.int .i64 a.Layers]]; bif ((!U) == false) then let W := (((List.length a.Steps) : Nat) : Int); let X := IntKind.wrap .i64 (3 * a.Levels); let Y := IntKind.wrap .i64 (X + 1); bif ((W != Y) == false) then bif (pre_D8 1 65536 a.Steps) then let Z := m_D8 1 65536 a.Steps; bif (!Z) then k (V.bool false) else bif (pre_D8 8 32 [[V.int .i64 a.Dead]]) then let a0 := m_D8 8 32 [[V.int .i64 a.Dead]]; bif ((!a0) == false) then bif (pre_D8 0 30 [[V.int .i64 a.Shift]]) then let a1 := m_D8 0 30 [[V.int .i64 a.Shift]]; bif (!a1) then k (V.bool false) else bif ((a.Color == 0) == false) then let a2 := (((List.length b.Components) : Nat) : Int); let q := decide (a2 >= 3); bif ((inR 0 (List.length b.Components)) || !(q == true)) then let a3 := List.getD b.Components (0 : Nat) []; let g := SComponent.of a3; bif ((inR 1 (List.length b.Components)) || !(q == true)) then let a4 := List.getD b.Components (1 : Nat) []; let i := SComponent.of a4; let a5 := (g.Depth == i.Depth) && ((g.Signed == i.Signed) && ((g.DX == i.DX) && ((g.DY == i.DY) && true))); let r : Bool := (bif q then a5 else false); bif ((inR 0 (List.length b.Components)) || !(r == true)) then let a6 := List.getD b.Components (0 : Nat) []; let j := SComponent.of a6; bif ((inR 2 (List.length b.Components)) || !(r == true)) then let a7 := List.getD b.Components (2 : Nat) []; let m := SComponent.of a7; let a8 := (j.Depth == m.Depth) && ((j.Signed == m.Signed) && ((j.DX == m.DX) && ((j.DY == m.DY) && true))); let a9 : Bool := (bif r then a8 else false); k (V.bool a9) else none else none else none else none else k (V.bool true) else none else k (V.bool false) else none else none else k (V.bool false) else k (V.bool false) else none) k else none else k (V.bool false) else none
abbrev av_C5 (a : SHeader) (b : SParams) : List V := [(SHeader.v a), (SParams.v b)]
theorem spec_C5_eq (a : SHeader) (b : SParams) (k : V -> Option R) : fnK env_C5 Try.f80 (av_C5 a b) k = spec_C5 a b k := by kernel_rfl
theorem mk_C5 (h_D8 : G_D8) (h : ∀ (a : SHeader) (b : SParams), Real (av_C5 a b) -> spec_C5 a b some = some (V.bool (m_C5 a b))) : G_C5 := goodHook1 fun l hp => by
  unfold hp_C5 at hp
  split at hp
  · rename_i d f g i j m o p q r s t u v w y z A B D F H I J K L
    exact fn_ok (fn := Try.f80) (c := bodyOf Try.f80) (E := env_C5) ⟨by kernel_rfl, (goodCons h_D8 goodNil), rfl⟩ rfl (by kernel_rfl) (by kernel_rfl) (by kernel_rfl) (loopsOK_of _ (by have e : loopsOf (bodyOf Try.f80) = [(0, loopAt Try.f80 0)] := (by kernel_rfl); rw [e]; simp only [List.forall_mem_cons, List.not_mem_nil, false_implies, implies_true, and_true]; exact good_C5_0)) (fun hr => (spec_C5_eq (SHeader.mk (SRect.mk d f g i) j m o) (SParams.mk p q r s t u v w (SMode.mk y z A B D) F H I J K L) some).trans (h (SHeader.mk (SRect.mk d f g i) j m o) (SParams.mk p q r s t u v w (SMode.mk y z A B D) F H I J K L) hr))
  · cases hp
noncomputable def env_A4 : Env R := ⟨Try.prog, callNil, fun _ _ _ _ _ => none, Try.f86.results.toList, maskTab 9 [(0, 0xc1), (1, 0x4)], maskAt [(2, 1)]⟩
noncomputable def spec_A4 (a : Int) (k : V -> Option R) : Option R := let b := decide (a >= 0); let c := decide (a <= 5); let d : Bool := (bif b then c else false); k (V.bool d)
abbrev av_A4 (a : Int) : List V := [V.int .i64 a]
theorem spec_A4_eq (a : Int) (k : V -> Option R) : fnK env_A4 Try.f86 (av_A4 a) k = spec_A4 a k := by kernel_rfl
theorem mk_A4 (h : ∀ (a : Int), Real (av_A4 a) -> spec_A4 a some = some (V.bool (m_A4 a))) : G_A4 := goodHook1 fun l hp => by
  unfold hp_A4 at hp
  split at hp
  · rename_i b
    exact fn_ok (fn := Try.f86) (c := bodyOf Try.f86) (E := env_A4) ⟨by kernel_rfl, goodNil, rfl⟩ rfl (by kernel_rfl) (by kernel_rfl) (by kernel_rfl) (loopsOK_of _ (by have e : loopsOf (bodyOf Try.f86) = [] := (by kernel_rfl); rw [e]; intro p hp; cases hp)) (fun hr => (spec_A4_eq b some).trans (h b hr))
  · cases hp
theorem au_A4 (a : Int) : spec_A4 a some = some ((fun (m : Bool) => (V.bool m)) (m_A4 a)) := by
  repeat' (first | rfl | refine bif_t (v := (fun (m : Bool) => (V.bool m))) ?_ ?_)
theorem good_A4_of : G_A4 := mk_A4 (fun _ _ => au_A4 _)
noncomputable def env_A6 : Env R := ⟨Try.prog, callCons 54 c_F4 (callCons 86 c_A4 callNil), fun _ _ _ _ _ => none, Try.f69.results.toList, maskTab 30 [(0, 0x7304e), (1, 0x8004e), (2, 0x40), (3, 0xc8), (4, 0x40)], maskAt [(2, 2), (4, 14), (6, 16), (8, 22)]⟩
noncomputable def spec_A6 (e : SRect) (a b : Int) (k : V -> Option R) : Option R := let f := m_A4 a; let g := decide (b < 0); let i : Bool := (bif (!f) then true else g); let j : Bool := (bif i then true else (decide (b > a))); bif j then k (V.agg [(V.int .i64 0), (V.int .i64 0), (V.int .i64 0), (V.int .i64 0)]) else let c := IntKind.wrap .i64 (a - b); bif (decide (0 <= (IntKind.wrap .u64 c))) then let d := IntKind.wrap .i64 (1 * 2 ^ (min (Int.toNat (IntKind.wrap .u64 c)) 64)); let m := m_F4 e d d; k (SRect.v m) else none
abbrev av_A6 (a : SRect) (b c : Int) : List V := [(SRect.v a), V.int .i64 b, V.int .i64 c]
theorem spec_A6_eq (a : SRect) (b c : Int) (k : V -> Option R) : fnK env_A6 Try.f69 (av_A6 a b c) k = spec_A6 a b c k := by kernel_rfl
theorem mk_A6 (h_F4 : G_F4) (h_A4 : G_A4) (h : ∀ (a : SRect) (b d : Int), Real (av_A6 a b d) -> spec_A6 a b d some = some (SRect.v (m_A6 a b d))) : G_A6 := goodHook1 fun l hp => by
  unfold hp_A6 at hp
  split at hp
  · rename_i f g i j m o
    exact fn_ok (fn := Try.f69) (c := bodyOf Try.f69) (E := env_A6) ⟨by kernel_rfl, (goodCons h_F4 (goodCons h_A4 goodNil)), rfl⟩ rfl (by kernel_rfl) (by kernel_rfl) (by kernel_rfl) (loopsOK_of _ (by have e : loopsOf (bodyOf Try.f69) = [] := (by kernel_rfl); rw [e]; intro p hp; cases hp)) (fun hr => (spec_A6_eq (SRect.mk f g i j) m o some).trans (h (SRect.mk f g i j) m o hr))
  · cases hp
theorem au_A6 (a : SRect) (b c : Int) : pre_A6 a b c = true -> spec_A6 a b c some = some ((fun (m : SRect) => (SRect.v m)) (m_A6 a b c)) := by
  repeat' (first | exact fun _ => rfl | exact fun h => absurd h (by decide) | refine bif_p (v := (fun (m : SRect) => (SRect.v m))) ?_ ?_)
theorem good_A6_of (h_F4 : G_F4) (h_A4 : G_A4) : G_A6 := mk_A6 h_F4 h_A4 (fun _ _ _ _ => au_A6 _ _ _ (pt_A6 _ _ _))
noncomputable def env_B5 : Env R := ⟨Try.prog, callNil, fun _ _ _ _ _ => none, Try.f70.results.toList, maskTab 33 [(0, 0x1e16), (1, 0x36), (2, 0x10), (3, 0x8016), (4, 0x10), (5, 0x200016), (6, 0x10), (7, 0x10)], maskAt [(2, 2), (4, 11), (6, 13), (8, 18), (10, 20), (12, 26), (14, 28)]⟩
noncomputable def spec_B5 (a : SParams) (b : Int) (k : V -> Option R) : Option R := let c := decide (b < 0); let d := decide (b > a.Levels); let e : Bool := (bif c then true else d); bif e then k (V.agg [(V.int .i64 0), (V.int .i64 0)]) else let f := (((List.length a.Precincts) : Nat) : Int); bif (f == 0) then k (V.agg [(V.int .i64 12), (V.int .i64 12)]) else let g := (((List.length a.Precincts) : Nat) : Int); bif (decide (b >= g)) then k (V.agg [(V.int .i64 0), (V.int .i64 0)]) else bif (inR b (List.length a.Precincts)) then let i := List.getD a.Precincts (Int.toNat b) []; let j := SPoint.of i; k (SPoint.v j) else none
abbrev av_B5 (a : SParams) (b : Int) : List V := [(SParams.v a), V.int .i64 b]
theorem spec_B5_eq (a : SParams) (b : Int) (k : V -> Option R) : fnK env_B5 Try.f70 (av_B5 a b) k = spec_B5 a b k := by kernel_rfl
theorem mk_B5 (h : ∀ (a : SParams) (b : Int), Real (av_B5 a b) -> spec_B5 a b some = some (SPoint.v (m_B5 a b))) : G_B5 := goodHook1 fun l hp => by
  unfold hp_B5 at hp
  split at hp
  · rename_i d f g i j m o q r s t u v w y z A B D F
    exact fn_ok (fn := Try.f70) (c := bodyOf Try.f70) (E := env_B5) ⟨by kernel_rfl, goodNil, rfl⟩ rfl (by kernel_rfl) (by kernel_rfl) (by kernel_rfl) (loopsOK_of _ (by have e : loopsOf (bodyOf Try.f70) = [] := (by kernel_rfl); rw [e]; intro p hp; cases hp)) (fun hr => (spec_B5_eq (SParams.mk d f g i j m o q (SMode.mk r s t u v) w y z A B D) F some).trans (h (SParams.mk d f g i j m o q (SMode.mk r s t u v) w y z A B D) F hr))
  · cases hp
theorem au_B5 (a : SParams) (b : Int) : pre_B5 a b = true -> spec_B5 a b some = some ((fun (m : SPoint) => (SPoint.v m)) (m_B5 a b)) := by
  repeat' (first | exact fun _ => rfl | exact fun h => absurd h (by decide) | refine bif_p (v := (fun (m : SPoint) => (SPoint.v m))) ?_ ?_)
theorem good_B5_of : G_B5 := mk_B5 (fun _ _ _ => au_B5 _ _ (pt_B5 _ _))
noncomputable def env_B4 : Env R := ⟨Try.prog, callCons 86 c_A4 callNil, fun _ _ _ _ _ => none, Try.f74.results.toList, maskTab 29 [(0, 0xe603), (1, 0x10002), (2, 0x10), (3, 0x40002), (4, 0x10), (5, 0x10)], maskAt [(2, 1), (4, 13), (6, 14), (8, 16), (10, 18)]⟩
noncomputable def spec_B4 (b a : Int) (k : V -> Option R) : Option R := let c := m_A4 b; let d := decide (a < 0); let e : Bool := (bif (!c) then true else d); let f : Bool := (bif e then true else (decide (a > b))); bif f then k (V.data [.int .i64] []) else bif (a == 0) then k (V.data [.int .i64] [[(V.int .i64 0)]]) else let g := IntKind.wrap .i64 (3 * a); let i := IntKind.wrap .i64 (g - 2); let j := IntKind.wrap .i64 (3 * a); let m := IntKind.wrap .i64 (j - 1); let o := IntKind.wrap .i64 (3 * a); k (V.data [.int .i64] [[V.int .i64 i], [V.int .i64 m], [V.int .i64 o]])
abbrev av_B4 (a b : Int) : List V := [V.int .i64 a, V.int .i64 b]
theorem spec_B4_eq (a b : Int) (k : V -> Option R) : fnK env_B4 Try.f74 (av_B4 a b) k = spec_B4 a b k := by kernel_rfl
theorem mk_B4 (h_A4 : G_A4) (h : ∀ (a b : Int), Real (av_B4 a b) -> spec_B4 a b some = some (V.data [.int .i64] (m_B4 a b))) : G_B4 := goodHook1 fun l hp => by
  unfold hp_B4 at hp
  split at hp
  · rename_i d f
    exact fn_ok (fn := Try.f74) (c := bodyOf Try.f74) (E := env_B4) ⟨by kernel_rfl, (goodCons h_A4 goodNil), rfl⟩ rfl (by kernel_rfl) (by kernel_rfl) (by kernel_rfl) (loopsOK_of _ (by have e : loopsOf (bodyOf Try.f74) = [] := (by kernel_rfl); rw [e]; intro p hp; cases hp)) (fun hr => (spec_B4_eq d f some).trans (h d f hr))
  · cases hp
theorem au_B4 (a b : Int) : spec_B4 a b some = some ((fun (m : Rows) => (V.data [.int .i64] m)) (m_B4 a b)) := by
  repeat' (first | rfl | refine bif_t (v := (fun (m : Rows) => (V.data [.int .i64] m))) ?_ ?_)
theorem good_B4_of (h_A4 : G_A4) : G_B4 := mk_B4 h_A4 (fun _ _ _ => au_B4 _ _)
noncomputable def shape_J1_0 : ST := ⟨.undef :: .ptr 0 0 0 :: .ptr 1 0 0 :: .ptr 2 0 0 :: unds 7 (.lit .i64 0 :: unds 33 []), [(0, .var SRect.sh false [.int .i64, .int .i64, .int .i64, .int .i64]), (1, .var SA4_Rect.sh false [.lit .i64 0, .lit .i64 0, .lit .i64 0, .lit .i64 0, .lit .i64 0, .lit .i64 0, .lit .i64 0, .lit .i64 0, .lit .i64 0, .lit .i64 0, .lit .i64 0, .lit .i64 0, .lit .i64 0, .lit .i64 0, .lit .i64 0, .lit .i64 0]), (2, .var SA4_Rect.sh false [.lit .i64 0, .lit .i64 0, .lit .i64 0, .lit .i64 0, .lit .i64 0, .lit .i64 0, .lit .i64 0, .lit .i64 0, .lit .i64 0, .lit .i64 0, .lit .i64 0, .lit .i64 0, .lit .i64 0, .lit .i64 0, .lit .i64 0, .lit .i64 0])], 9⟩
noncomputable def un_J1_0 (a : SRect) (kn : St -> Option R) (kr : V -> Option R) : Option R := let f := intBits .and .i64 0 1; let b := IntKind.wrap .i64 (1 - f); let g := IntKind.wrap .i64 (a.X0 + b); let i := IntKind.wrap .i64 (Int.tdiv g 2); let j := IntKind.wrap .i64 (a.Y0 + 1); let m := IntKind.wrap .i64 (Int.tdiv j 2); let o := IntKind.wrap .i64 (a.X1 + b); let p := IntKind.wrap .i64 (Int.tdiv o 2); let q := IntKind.wrap .i64 (a.Y1 + 1); let r := IntKind.wrap .i64 (Int.tdiv q 2); let s := intBits .and .i64 1 1; let c := IntKind.wrap .i64 (1 - s); let t := IntKind.wrap .i64 (a.X0 + c); let u := IntKind.wrap .i64 (Int.tdiv t 2); let v := IntKind.wrap .i64 (a.Y0 + 1); let w := IntKind.wrap .i64 (Int.tdiv v 2); let y := IntKind.wrap .i64 (a.X1 + c); let z := IntKind.wrap .i64 (Int.tdiv y 2); let A := IntKind.wrap .i64 (a.Y1 + 1); let B := IntKind.wrap .i64 (Int.tdiv A 2); let D := intBits .and .i64 2 1; let d := IntKind.wrap .i64 (1 - D); let E := IntKind.wrap .i64 (a.X0 + d); let F := IntKind.wrap .i64 (Int.tdiv E 2); let H := IntKind.wrap .i64 (a.Y0 + 0); let I := IntKind.wrap .i64 (Int.tdiv H 2); let J := IntKind.wrap .i64 (a.X1 + d); let K := IntKind.wrap .i64 (Int.tdiv J 2); let L := IntKind.wrap .i64 (a.Y1 + 0); let M := IntKind.wrap .i64 (Int.tdiv L 2); let N := intBits .and .i64 3 1; let e := IntKind.wrap .i64 (1 - N); let O := IntKind.wrap .i64 (a.X0 + e); let Q := IntKind.wrap .i64 (Int.tdiv O 2); let S := IntKind.wrap .i64 (a.Y0 + 0); let U := IntKind.wrap .i64 (Int.tdiv S 2); let W := IntKind.wrap .i64 (a.X1 + e); let X := IntKind.wrap .i64 (Int.tdiv W 2); let Y := IntKind.wrap .i64 (a.Y1 + 0); let Z := IntKind.wrap .i64 (Int.tdiv Y 2); kn ⟨[V.undef, (V.ptr 0 (0 : Nat) 0), (V.ptr 1 (0 : Nat) 0), (V.ptr 2 (0 : Nat) 0), V.undef, V.undef, V.undef, V.undef, V.undef, V.undef, V.undef, (V.int .i64 4), V.undef, V.undef, V.undef, V.undef, V.undef, V.undef, V.undef, V.undef, V.undef, V.undef, V.undef, V.undef, V.undef, V.undef, V.undef, V.undef, V.undef, V.undef, V.undef, V.undef, V.undef, V.undef, V.undef, V.undef, V.undef, V.undef, V.undef, V.undef, V.undef, V.undef, V.undef, V.undef, V.undef], [(0, ⟨false, SRect.sh, [(SRect.row a)], false⟩), (1, ⟨false, SA4_Rect.sh, [[(V.int .i64 0), (V.int .i64 0), (V.int .i64 0), (V.int .i64 0), (V.int .i64 0), (V.int .i64 0), (V.int .i64 0), (V.int .i64 0), (V.int .i64 0), (V.int .i64 0), (V.int .i64 0), (V.int .i64 0), (V.int .i64 0), (V.int .i64 0), (V.int .i64 0), (V.int .i64 0)]], false⟩), (2, ⟨false, SA4_Rect.sh, [[V.int .i64 i, V.int .i64 m, V.int .i64 p, V.int .i64 r, V.int .i64 u, V.int .i64 w, V.int .i64 z, V.int .i64 B, V.int .i64 F, V.int .i64 I, V.int .i64 K, V.int .i64 M, V.int .i64 Q, V.int .i64 U, V.int .i64 X, V.int .i64 Z]], false⟩)], 9⟩
noncomputable def hook_J1_0 : LoopG R := fun l kn _ kr => match l with
  | .i a :: .i b :: .i c :: .i d :: [] => un_J1_0 (SRect.mk a b c d) kn kr
  | _ => none
noncomputable def env_J1 : Env R := ⟨Try.prog, callCons 34 c_H1 callNil, fun id => bif Nat.beq id 0 then loopAlt shape_J1_0 hook_J1_0 loopNil else (fun _ _ _ _ _ => none) id, Try.f88.results.toList, maskTab 45 [(0, 0x6), (1, 0xe), (2, 0x20e), (3, 0x4), (4, 0x80e), (5, 0x180e), (6, 0x81e), (7, 0x87e), (8, 0x80e), (9, 0x80e), (10, 0x4)], maskAt [(1, 9), (2, 2), (4, 3), (6, 6), (8, 8), (10, 13), (12, 14), (14, 16), (16, 24), (18, 48), (20, 50)]⟩
theorem un_J1_0_eq (a : SRect) (kn : St -> Option R) (kx : Nat -> St -> Option R) (kr : V -> Option R) : loopN env_J1 0 (loopAt Try.f88 0) (shape_J1_0.put [.i a.X0, .i a.Y0, .i a.X1, .i a.Y1]) kn kx kr 5 (shape_J1_0.put [.i a.X0, .i a.Y0, .i a.X1, .i a.Y1]) = un_J1_0 a kn kr := by kernel_rfl
theorem goodl_J1_0 {rest} (h : GoodL (R := R) env_J1 0 (loopAt Try.f88 0) rest) : GoodL (R := R) env_J1 0 (loopAt Try.f88 0) (loopAlt shape_J1_0 hook_J1_0 rest) := by
  refine goodL_alt (fun l kn kx kr r h => ?_) h
  unfold hook_J1_0 at h
  split at h
  · rename_i a b c d
    exact ⟨5, (un_J1_0_eq (SRect.mk a b c d) kn kx kr).trans h⟩
  · cases h
theorem good_J1_0 : GoodLoop (R := R) env_J1 0 (loopAt Try.f88 0) := goodL_loop (g := loopAlt shape_J1_0 hook_J1_0 loopNil) (fun _ _ _ _ => rfl) (goodl_J1_0 goodL_nil)
noncomputable def spec_J1 (a : SRect) (k : V -> Option R) : Option R := let f := m_H1 a; bif (!f) then k (V.agg [(V.int .i64 0), (V.int .i64 0), (V.int .i64 0), (V.int .i64 0), (V.int .i64 0), (V.int .i64 0), (V.int .i64 0), (V.int .i64 0), (V.int .i64 0), (V.int .i64 0), (V.int .i64 0), (V.int .i64 0), (V.int .i64 0), (V.int .i64 0), (V.int .i64 0), (V.int .i64 0)]) else let g := intBits .and .i64 0 1; let b := IntKind.wrap .i64 (1 - g); let i := IntKind.wrap .i64 (a.X0 + b); let j := IntKind.wrap .i64 (Int.tdiv i 2); let m := IntKind.wrap .i64 (a.Y0 + 1); let o := IntKind.wrap .i64 (Int.tdiv m 2); let p := IntKind.wrap .i64 (a.X1 + b); let q := IntKind.wrap .i64 (Int.tdiv p 2); let r := IntKind.wrap .i64 (a.Y1 + 1); let s := IntKind.wrap .i64 (Int.tdiv r 2); let t := intBits .and .i64 1 1; let c := IntKind.wrap .i64 (1 - t); let u := IntKind.wrap .i64 (a.X0 + c); let v := IntKind.wrap .i64 (Int.tdiv u 2); let w := IntKind.wrap .i64 (a.Y0 + 1); let y := IntKind.wrap .i64 (Int.tdiv w 2); let z := IntKind.wrap .i64 (a.X1 + c); let A := IntKind.wrap .i64 (Int.tdiv z 2); let B := IntKind.wrap .i64 (a.Y1 + 1); let D := IntKind.wrap .i64 (Int.tdiv B 2); let E := intBits .and .i64 2 1; let d := IntKind.wrap .i64 (1 - E); let F := IntKind.wrap .i64 (a.X0 + d); let H := IntKind.wrap .i64 (Int.tdiv F 2); let I := IntKind.wrap .i64 (a.Y0 + 0); let J := IntKind.wrap .i64 (Int.tdiv I 2); let K := IntKind.wrap .i64 (a.X1 + d); let L := IntKind.wrap .i64 (Int.tdiv K 2); let M := IntKind.wrap .i64 (a.Y1 + 0); let N := IntKind.wrap .i64 (Int.tdiv M 2); let O := intBits .and .i64 3 1; let e := IntKind.wrap .i64 (1 - O); let Q := IntKind.wrap .i64 (a.X0 + e); let S := IntKind.wrap .i64 (Int.tdiv Q 2); let U := IntKind.wrap .i64 (a.Y0 + 0); let W := IntKind.wrap .i64 (Int.tdiv U 2); let X := IntKind.wrap .i64 (a.X1 + e); let Y := IntKind.wrap .i64 (Int.tdiv X 2); let Z := IntKind.wrap .i64 (a.Y1 + 0); let a0 := IntKind.wrap .i64 (Int.tdiv Z 2); k (V.agg [V.int .i64 j, V.int .i64 o, V.int .i64 q, V.int .i64 s, V.int .i64 v, V.int .i64 y, V.int .i64 A, V.int .i64 D, V.int .i64 H, V.int .i64 J, V.int .i64 L, V.int .i64 N, V.int .i64 S, V.int .i64 W, V.int .i64 Y, V.int .i64 a0])
abbrev av_J1 (a : SRect) : List V := [(SRect.v a)]
theorem spec_J1_eq (a : SRect) (k : V -> Option R) : fnK env_J1 Try.f88 (av_J1 a) k = spec_J1 a k := by kernel_rfl
theorem mk_J1 (h_H1 : G_H1) (h : ∀ (a : SRect), Real (av_J1 a) -> spec_J1 a some = some (SA4_Rect.v (m_J1 a))) : G_J1 := goodHook1 fun l hp => by
  unfold hp_J1 at hp
  split at hp
  · rename_i b d f g
    exact fn_ok (fn := Try.f88) (c := bodyOf Try.f88) (E := env_J1) ⟨by kernel_rfl, (goodCons h_H1 goodNil), rfl⟩ rfl (by kernel_rfl) (by kernel_rfl) (by kernel_rfl) (loopsOK_of _ (by have e : loopsOf (bodyOf Try.f88) = [(0, loopAt Try.f88 0)] := (by kernel_rfl); rw [e]; simp only [List.forall_mem_cons, List.not_mem_nil, false_implies, implies_true, and_true]; exact good_J1_0)) (fun hr => (spec_J1_eq (SRect.mk b d f g) some).trans (h (SRect.mk b d f g) hr))
  · cases hp
theorem au_J1 (a : SRect) : spec_J1 a some = some ((fun (m : SA4_Rect) => (SA4_Rect.v m)) (m_J1 a)) := by
  repeat' (first | rfl | refine bif_t (v := (fun (m : SA4_Rect) => (SA4_Rect.v m))) ?_ ?_)
theorem good_J1_of (h_H1 : G_H1) : G_J1 := mk_J1 h_H1 (fun _ _ => au_J1 _)
noncomputable def env_D9 : Env R := ⟨Try.prog, callCons 86 c_A4 callNil, fun _ _ _ _ _ => none, Try.f87.results.toList, maskTab 9 [(0, 0x1), (1, 0x21), (2, 0x4), (3, 0x4)], maskAt [(2, 1), (4, 4), (6, 5)]⟩
noncomputable def spec_D9 (a : Int) (k : V -> Option R) : Option R := let b := m_A4 a; bif (!b) then k (V.int .i64 0) else let c := IntKind.wrap .i64 (3 * a); let d := IntKind.wrap .i64 (c + 1); k (V.int .i64 d)
abbrev av_D9 (a : Int) : List V := [V.int .i64 a]
theorem spec_D9_eq (a : Int) (k : V -> Option R) : fnK env_D9 Try.f87 (av_D9 a) k = spec_D9 a k := by kernel_rfl
theorem mk_D9 (h_A4 : G_A4) (h : ∀ (a : Int), Real (av_D9 a) -> spec_D9 a some = some (V.int .i64 (m_D9 a))) : G_D9 := goodHook1 fun l hp => by
  unfold hp_D9 at hp
  split at hp
  · rename_i b
    exact fn_ok (fn := Try.f87) (c := bodyOf Try.f87) (E := env_D9) ⟨by kernel_rfl, (goodCons h_A4 goodNil), rfl⟩ rfl (by kernel_rfl) (by kernel_rfl) (by kernel_rfl) (loopsOK_of _ (by have e : loopsOf (bodyOf Try.f87) = [] := (by kernel_rfl); rw [e]; intro p hp; cases hp)) (fun hr => (spec_D9_eq b some).trans (h b hr))
  · cases hp
theorem au_D9 (a : Int) : spec_D9 a some = some ((fun (m : Int) => (V.int .i64 m)) (m_D9 a)) := by
  repeat' (first | rfl | refine bif_t (v := (fun (m : Int) => (V.int .i64 m))) ?_ ?_)
theorem good_D9_of (h_A4 : G_A4) : G_D9 := mk_D9 h_A4 (fun _ _ => au_D9 _)
noncomputable def env_D6 : Env R := ⟨Try.prog, callCons 87 c_D9 callNil, fun _ _ _ _ _ => none, Try.f94.results.toList, maskTab 31 [(0, 0x7803), (1, 0x8003), (2, 0x70), (3, 0x20003), (4, 0x70), (5, 0x83), (6, 0x70)], maskAt [(2, 3), (4, 11), (6, 14), (8, 16), (10, 20), (12, 24)]⟩
noncomputable def spec_D6 (a b : Int) (k : V -> Option R) : Option R := let d := decide (a < 0); bif (d == false) then let e := m_D9 b; bif (decide (a >= e)) then k (V.tup [(V.int .i64 0), (V.int .i64 0), V.bool false]) else bif (a == 0) then k (V.tup [V.int .i64 b, (V.int .i64 0), V.bool true]) else let f := IntKind.wrap .i64 (a + 2); let c := IntKind.wrap .i64 (Int.tdiv f 3); let g := IntKind.wrap .i64 (b - c); let i := IntKind.wrap .i64 (g + 1); let j := IntKind.wrap .i64 (3 * c); let m := IntKind.wrap .i64 (a - j); let o := IntKind.wrap .i64 (m + 3); k (V.tup [V.int .i64 i, V.int .i64 o, V.bool true]) else k (V.tup [(V.int .i64 0), (V.int .i64 0), V.bool false])
abbrev av_D6 (a b : Int) : List V := [V.int .i64 a, V.int .i64 b]
theorem spec_D6_eq (a b : Int) (k : V -> Option R) : fnK env_D6 Try.f94 (av_D6 a b) k = spec_D6 a b k := by kernel_rfl
theorem mk_D6 (h_D9 : G_D9) (h : ∀ (a b : Int), Real (av_D6 a b) -> spec_D6 a b some = some (V.tup [(V.int .i64 (m_D6 a b).1), (V.int .i64 (m_D6 a b).2.1), (V.bool (m_D6 a b).2.2)])) : G_D6 := goodHook1 fun l hp => by
  unfold hp_D6 at hp
  split at hp
  · rename_i d f
    exact fn_ok (fn := Try.f94) (c := bodyOf Try.f94) (E := env_D6) ⟨by kernel_rfl, (goodCons h_D9 goodNil), rfl⟩ rfl (by kernel_rfl) (by kernel_rfl) (by kernel_rfl) (loopsOK_of _ (by have e : loopsOf (bodyOf Try.f94) = [] := (by kernel_rfl); rw [e]; intro p hp; cases hp)) (fun hr => (spec_D6_eq d f some).trans (h d f hr))
  · cases hp
theorem au_D6 (a b : Int) : spec_D6 a b some = some ((fun (m : Int × Int × Bool) => (V.tup [V.int .i64 m.1, V.int .i64 m.2.1, V.bool m.2.2])) (m_D6 a b)) := by
  repeat' (first | rfl | refine bif_t (v := (fun (m : Int × Int × Bool) => (V.tup [V.int .i64 m.1, V.int .i64 m.2.1, V.bool m.2.2]))) ?_ ?_)
theorem good_D6_of (h_D9 : G_D9) : G_D6 := mk_D6 h_D9 (fun _ _ _ => au_D6 _ _)
noncomputable def env_F1 : Env R := ⟨Try.prog, callCons 34 c_H1 (callCons 69 c_A6 (callCons 88 c_J1 (callCons 94 c_D6 callNil))), fun _ _ _ _ _ => none, Try.f96.results.toList, maskTab 40 [(0, 0x70004e), (1, 0x7003ce), (2, 0x8001ce), (3, 0x40), (4, 0x40001ca), (5, 0x40), (6, 0x40)], maskAt [(2, 2), (4, 12), (6, 19), (8, 21), (10, 23), (12, 27)]⟩
noncomputable def spec_F1 (d : SRect) (c e : Int) (k : V -> Option R) : Option R := let b := m_D6 e c; bif ((!b.2.2) == false) then let f := m_H1 d; bif (!f) then k (V.agg [(V.int .i64 0), (V.int .i64 0), (V.int .i64 0), (V.int .i64 0)]) else bif (e == 0) then let g := m_A6 d c 0; k (SRect.v g) else let i := IntKind.wrap .i64 (c - b.1); let j := IntKind.wrap .i64 (i + 1); let m := m_A6 d c j; let a := m_J1 m; bif (true && (inR b.2.1 (4 : Nat))) then let o : Int := (bif (decide (b.2.1 = ((0 : Nat) : Int))) then a.e0.X0 else (bif (decide (b.2.1 = ((1 : Nat) : Int))) then a.e1.X0 else (bif (decide (b.2.1 = ((2 : Nat) : Int))) then a.e2.X0 else a.e3.X0))); let p : Int := (bif (decide (b.2.1 = ((0 : Nat) : Int))) then a.e0.Y0 else (bif (decide (b.2.1 = ((1 : Nat) : Int))) then a.e1.Y0 else (bif (decide (b.2.1 = ((2 : Nat) : Int))) then a.e2.Y0 else a.e3.Y0))); let q : Int := (bif (decide (b.2.1 = ((0 : Nat) : Int))) then a.e0.X1 else (bif (decide (b.2.1 = ((1 : Nat) : Int))) then a.e1.X1 else (bif (decide (b.2.1 = ((2 : Nat) : Int))) then a.e2.X1 else a.e3.X1))); let r : Int := (bif (decide (b.2.1 = ((0 : Nat) : Int))) then a.e0.Y1 else (bif (decide (b.2.1 = ((1 : Nat) : Int))) then a.e1.Y1 else (bif (decide (b.2.1 = ((2 : Nat) : Int))) then a.e2.Y1 else a.e3.Y1))); k (V.agg [V.int .i64 o, V.int .i64 p, V.int .i64 q, V.int .i64 r]) else none else k (V.agg [(V.int .i64 0), (V.int .i64 0), (V.int .i64 0), (V.int .i64 0)])
abbrev av_F1 (a : SRect) (b c : Int) : List V := [(SRect.v a), V.int .i64 b, V.int .i64 c]
theorem spec_F1_eq (a : SRect) (b c : Int) (k : V -> Option R) : fnK env_F1 Try.f96 (av_F1 a b c) k = spec_F1 a b c k := by kernel_rfl
theorem mk_F1 (h_H1 : G_H1) (h_A6 : G_A6) (h_J1 : G_J1) (h_D6 : G_D6) (h : ∀ (a : SRect) (b d : Int), Real (av_F1 a b d) -> spec_F1 a b d some = some (SRect.v (m_F1 a b d))) : G_F1 := goodHook1 fun l hp => by
  unfold hp_F1 at hp
  split at hp
  · rename_i f g i j m o
    exact fn_ok (fn := Try.f96) (c := bodyOf Try.f96) (E := env_F1) ⟨by kernel_rfl, (goodCons h_H1 (goodCons h_A6 (goodCons h_J1 (goodCons h_D6 goodNil)))), rfl⟩ rfl (by kernel_rfl) (by kernel_rfl) (by kernel_rfl) (loopsOK_of _ (by have e : loopsOf (bodyOf Try.f96) = [] := (by kernel_rfl); rw [e]; intro p hp; cases hp)) (fun hr => (spec_F1_eq (SRect.mk f g i j) m o some).trans (h (SRect.mk f g i j) m o hr))
  · cases hp
theorem au_F1 (a : SRect) (b c : Int) : pre_F1 a b c = true -> spec_F1 a b c some = some ((fun (m : SRect) => (SRect.v m)) (m_F1 a b c)) := by
  repeat' (first | exact fun _ => rfl | exact fun h => absurd h (by decide) | refine bif_p (v := (fun (m : SRect) => (SRect.v m))) ?_ ?_)
theorem good_F1_of (h_H1 : G_H1) (h_A6 : G_A6) (h_J1 : G_J1) (h_D6 : G_D6) : G_F1 := mk_F1 h_H1 h_A6 h_J1 h_D6 (fun _ _ _ _ => au_F1 _ _ _ (pt_F1 _ _ _))
noncomputable def env_E4 : Env R := ⟨Try.prog, callCons 35 c_H2 (callCons 66 c_E3 (callCons 67 c_D1 callNil)), fun _ _ _ _ _ => none, Try.f99.results.toList, maskTab 36 [(0, 0xe), (1, 0x40e), (2, 0x40), (3, 0x188), (4, 0x40)], maskAt [(2, 2), (4, 4), (6, 5), (8, 13)]⟩
noncomputable def spec_E4 (a : SRect) (b c : Int) (k : V -> Option R) : Option R := let f := m_H2 a; bif f then k (V.int .i64 0) else bif (decide (0 <= (IntKind.wrap .u64 b))) then let d := IntKind.wrap .i64 (1 * 2 ^ (min (Int.toNat (IntKind.wrap .u64 b)) 64)); bif (decide (0 <= (IntKind.wrap .u64 c))) then let e := IntKind.wrap .i64 (1 * 2 ^ (min (Int.toNat (IntKind.wrap .u64 c)) 64)); let g := m_E3 a.X1 d; let i := m_D1 a.X0 d; let j := IntKind.wrap .i64 (g - i); let m := m_E3 a.Y1 e; let o := m_D1 a.Y0 e; let p := IntKind.wrap .i64 (m - o); let q := IntKind.wrap .i64 (j * p); k (V.int .i64 q) else none else none
abbrev av_E4 (a : SRect) (b c : Int) : List V := [(SRect.v a), V.int .i64 b, V.int .i64 c]
theorem spec_E4_eq (a : SRect) (b c : Int) (k : V -> Option R) : fnK env_E4 Try.f99 (av_E4 a b c) k = spec_E4 a b c k := by kernel_rfl
theorem mk_E4 (h_H2 : G_H2) (h_E3 : G_E3) (h_D1 : G_D1) (h : ∀ (a : SRect) (b d : Int), Real (av_E4 a b d) -> spec_E4 a b d some = some (V.int .i64 (m_E4 a b d))) : G_E4 := goodHook1 fun l hp => by
  unfold hp_E4 at hp
  split at hp
  · rename_i f g i j m o
    exact fn_ok (fn := Try.f99) (c := bodyOf Try.f99) (E := env_E4) ⟨by kernel_rfl, (goodCons h_H2 (goodCons h_E3 (goodCons h_D1 goodNil))), rfl⟩ rfl (by kernel_rfl) (by kernel_rfl) (by kernel_rfl) (loopsOK_of _ (by have e : loopsOf (bodyOf Try.f99) = [] := (by kernel_rfl); rw [e]; intro p hp; cases hp)) (fun hr => (spec_E4_eq (SRect.mk f g i j) m o some).trans (h (SRect.mk f g i j) m o hr))
  · cases hp
theorem au_E4 (a : SRect) (b c : Int) : pre_E4 a b c = true -> spec_E4 a b c some = some ((fun (m : Int) => (V.int .i64 m)) (m_E4 a b c)) := by
  repeat' (first | exact fun _ => rfl | exact fun h => absurd h (by decide) | refine bif_p (v := (fun (m : Int) => (V.int .i64 m))) ?_ ?_)
theorem good_E4_of (h_H2 : G_H2) (h_E3 : G_E3) (h_D1 : G_D1) : G_E4 := mk_E4 h_H2 h_E3 h_D1 (fun _ _ _ _ => au_E4 _ _ _ (pt_E4 _ _ _))
end Go.Vm
