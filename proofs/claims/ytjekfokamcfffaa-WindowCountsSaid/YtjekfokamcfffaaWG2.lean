import Derived.Test.YtjekfokamcfffaaWM
set_option linter.unusedVariables false
set_option linter.unusedSimpArgs false
set_option maxRecDepth 100000
noncomputable section
namespace Go.Vm
open Go.Proofs
variable {R : Type}
noncomputable def fuel_I6_0 (a : Rows) (b : Int) (d : SHeader) (e : SParams) : Nat := let c := (((List.length a) : Nat) : Int); Int.toNat (c - b) + 1
noncomputable def step_I6_0 (b : Rows) (c : SHeader) (d : SParams) (a : Int) (again : Int -> Option R) (kn : Int -> Option R) (kr : V -> Option R) : Option R := let i := (((List.length b) : Nat) : Int); bif (decide (a < i)) then bif (inR a (List.length b)) then let j := List.getD b (Int.toNat a) []; let e := SRect.of j; bif (pre_G1 c d e) then let m := m_G1 c d e; let f := decide (m > 65536); bif ((inR a (List.length b)) || !(f == false)) then let o := List.getD b (Int.toNat a) []; let g := SRect.of o; bif (f == false) then bif (pre_G8 c d g) then let p := m_G8 c d g; let q := decide (p > 65536); bif q then kr (V.int .i64 5) else let r := IntKind.wrap .i64 (a + 1); again r else none else kr (V.int .i64 5) else none else none else none else kn a
noncomputable def loop_I6_0 (a : Rows) (b : SHeader) (c : SParams) : Nat -> Int -> (Int -> Option R) -> (V -> Option R) -> Option R
  | 0, _, _, _ => none
  | n + 1, d, kn, kr => step_I6_0 a b c d (fun e => loop_I6_0 a b c n e kn kr) kn kr
noncomputable def shape_I6_0 : ST := ⟨.undef :: .undef :: .ptr 0 0 0 :: .ptr 1 0 0 :: .undef :: .undef :: .data SRect.sh :: .int .i64 :: unds 71 [], [(0, .var SHeader.sh false SHeader.ts), (1, .var SParams.sh false SParams.ts)], 57⟩
noncomputable def st_I6_0 (c : Rows) (b : SHeader) (a : SParams) (d : Int) : St := shape_I6_0.put [.r c, .i d, .i b.Area.X0, .i b.Area.Y0, .i b.Area.X1, .i b.Area.Y1, .i b.TileW, .i b.TileH, .r b.Components, .i a.Kernel, .i a.Levels, .i a.Color, .i a.BlockX, .i a.BlockY, .r a.Precincts, .i a.Order, .i a.Layers, .b a.Mode.Bypass, .b a.Mode.Restart, .b a.Mode.Reset, .b a.Mode.Causal, .b a.Mode.Symbols, .b a.Divide, .b a.Sync, .b a.Fence, .r a.Steps, .i a.Dead, .i a.Shift]
noncomputable def hook_I6_0 : LoopG R := fun l kn _ kr => match l with
  | .r a :: .i I :: .i b :: .i c :: .i d :: .i e :: .i f :: .i g :: .r i :: .i j :: .i m :: .i o :: .i p :: .i q :: .r r :: .i s :: .i t :: .b u :: .b v :: .b w :: .b y :: .b z :: .b A :: .b B :: .b D :: .r E :: .i F :: .i H :: [] => loop_I6_0 a (SHeader.mk (SRect.mk b c d e) f g i) (SParams.mk j m o p q r s t (SMode.mk u v w y z) A B D E F H) (fuel_I6_0 a I (SHeader.mk (SRect.mk b c d e) f g i) (SParams.mk j m o p q r s t (SMode.mk u v w y z) A B D E F H)) I (fun J => kn (st_I6_0 a (SHeader.mk (SRect.mk b c d e) f g i) (SParams.mk j m o p q r s t (SMode.mk u v w y z) A B D E F H) J)) kr
  | _ => none
noncomputable def env_I6 : Env R := ⟨Try.prog, callCons 19 c_H4 (callCons 46 c_H5 (callCons 47 c_I1 (callCons 48 c_G0 (callCons 49 c_G1 (callCons 50 c_G8 callNil))))), fun id => bif Nat.beq id 0 then loopAlt shape_I6_0 hook_I6_0 loopNil else (fun _ _ _ _ _ => none) id, Try.f21.results.toList, maskTab 79 [(0, 0x3fc000007fcff800000c), (1, 0x3fc000007fcff800002c), (2, 0x3fc000007fcff800082c), (3, 0x10), (4, 0x3fc000007fcff800800c), (5, 0x10), (6, 0x3fc000007fcff804000c), (7, 0x10), (8, 0x3fc000007fcff820000c), (9, 0x3fc0000080000000000c), (10, 0x10), (11, 0x3fc0000000000000004c), (12, 0x3fc000000000000000cc), (13, 0x3fc004000000000000cc), (14, 0x3fc000000000000000cc), (15, 0x7fc000000000000000cc), (16, 0x10), (17, 0x10)], maskAt [(1, 57), (2, 3), (4, 6), (6, 8), (8, 10), (10, 13), (12, 14), (14, 17), (16, 18), (18, 21), (20, 47), (22, 48), (24, 56), (26, 61), (28, 84), (30, 65), (32, 83), (34, 87)]⟩
theorem step_I6_0_eq (a : Rows) (b : SHeader) (c : SParams) (e : Int) (kn : St -> Option R) (kx : Nat -> St -> Option R) (kr : V -> Option R) (n : Nat) (f : Int) :
    loopN env_I6 0 (loopAt Try.f21 0) (st_I6_0 a b c e) kn kx kr (n + 1) (st_I6_0 a b c f) =
    step_I6_0 a b c f (fun d => loopN env_I6 0 (loopAt Try.f21 0) (st_I6_0 a b c e) kn kx kr n (st_I6_0 a b c d)) (fun d => kn (st_I6_0 a b c d)) kr := by kernel_rfl
theorem loop_I6_0_eq (a : Rows) (b : SHeader) (c : SParams) (f : Int) (kn : St -> Option R) (kx : Nat -> St -> Option R) (kr : V -> Option R) : ∀ (n : Nat) (d : Int),
    loop_I6_0 a b c n d (fun e => kn (st_I6_0 a b c e)) kr = loopN env_I6 0 (loopAt Try.f21 0) (st_I6_0 a b c f) kn kx kr n (st_I6_0 a b c d)
  | 0, _ => rfl
  | n + 1, d => by
    rw [step_I6_0_eq, loop_I6_0]
    congr 1
    funext e
    exact loop_I6_0_eq a b c f kn kx kr n e
theorem goodl_I6_0 {rest} (h : GoodL (R := R) env_I6 0 (loopAt Try.f21 0) rest) : GoodL (R := R) env_I6 0 (loopAt Try.f21 0) (loopAlt shape_I6_0 hook_I6_0 rest) := by
  refine goodL_alt (fun l kn kx kr r h => ?_) h
  unfold hook_I6_0 at h
  split at h
  · rename_i b a c d e f g i j m o p q s t u v w y z A B D E F H I J
    exact ⟨_, (loop_I6_0_eq b (SHeader.mk (SRect.mk c d e f) g i j) (SParams.mk m o p q s t u v (SMode.mk w y z A B) D E F H I J) a kn kx kr _ a).symm.trans h⟩
  · cases h
theorem good_I6_0 : GoodLoop (R := R) env_I6 0 (loopAt Try.f21 0) := goodL_loop (g := loopAlt shape_I6_0 hook_I6_0 loopNil) (fun _ _ _ _ => rfl) (goodl_I6_0 goodL_nil)
noncomputable def spec_I6 (a : SHeader) (b : SParams) (k : V -> Option R) : Option R := let j := m_H4 a; bif (j != 0) then k (V.int .i64 j) else let p := m_I1 b; bif (!p) then k (V.int .i64 3) else let q := m_G0 b; bif (!q) then k (V.int .i64 13) else bif (b.Color != 0) then let r := (((List.length a.Components) : Nat) : Int); let g := decide (r < 3); bif ((inR 0 (List.length a.Components)) || !(g == false)) then let s := List.getD a.Components (0 : Nat) []; let c := SComponent.of s; bif ((inR 1 (List.length a.Components)) || !(g == false)) then let t := List.getD a.Components (1 : Nat) []; let d := SComponent.of t; let u := !((c.Depth == d.Depth) && ((c.Signed == d.Signed) && ((c.DX == d.DX) && ((c.DY == d.DY) && true)))); let i : Bool := (bif g then true else u); bif ((inR 0 (List.length a.Components)) || !(i == false)) then let v := List.getD a.Components (0 : Nat) []; let e := SComponent.of v; bif ((inR 2 (List.length a.Components)) || !(i == false)) then let w := List.getD a.Components (2 : Nat) []; let f := SComponent.of w; let y := !((e.Depth == f.Depth) && ((e.Signed == f.Signed) && ((e.DX == f.DX) && ((e.DY == f.DY) && true)))); let z : Bool := (bif i then true else y); bif z then k (V.int .i64 13) else let m := m_H5 a.Area a.TileW a.TileH; loop_I6_0 m a b (fuel_I6_0 m 0 a b) 0 (fun A => k (V.int .i64 0)) k else none else none else none else none else let o := m_H5 a.Area a.TileW a.TileH; loop_I6_0 o a b (fuel_I6_0 o 0 a b) 0 (fun B => k (V.int .i64 0)) k
abbrev av_I6 (a : SHeader) (b : SParams) : List V := [(SHeader.v a), (SParams.v b)]
theorem spec_I6_eq (a : SHeader) (b : SParams) (k : V -> Option R) : fnK env_I6 Try.f21 (av_I6 a b) k = spec_I6 a b k := by kernel_rfl
theorem mk_I6 (h_H4 : G_H4) (h_H5 : G_H5) (h_I1 : G_I1) (h_G0 : G_G0) (h_G1 : G_G1) (h_G8 : G_G8) (h : ∀ (a : SHeader) (b : SParams), Real (av_I6 a b) -> spec_I6 a b some = some (V.int .i64 (m_I6 a b))) : G_I6 := goodHook1 fun l hp => by
  unfold hp_I6 at hp
  split at hp
  · rename_i d f g i j m o p q r s t u v w y z A B D F H I J K L
    exact fn_ok (fn := Try.f21) (c := bodyOf Try.f21) (E := env_I6) ⟨by kernel_rfl, (goodCons h_H4 (goodCons h_H5 (goodCons h_I1 (goodCons h_G0 (goodCons h_G1 (goodCons h_G8 goodNil)))))), rfl⟩ rfl (by kernel_rfl) (by kernel_rfl) (by kernel_rfl) (loopsOK_of _ (by have e : loopsOf (bodyOf Try.f21) = [(0, loopAt Try.f21 0)] := (by kernel_rfl); rw [e]; simp only [List.forall_mem_cons, List.not_mem_nil, false_implies, implies_true, and_true]; exact good_I6_0)) (fun hr => (spec_I6_eq (SHeader.mk (SRect.mk d f g i) j m o) (SParams.mk p q r s t u v w (SMode.mk y z A B D) F H I J K L) some).trans (h (SHeader.mk (SRect.mk d f g i) j m o) (SParams.mk p q r s t u v w (SMode.mk y z A B D) F H I J K L) hr))
  · cases hp
noncomputable def env_D5 : Env R := ⟨Try.prog, callCons 20 c_I3 (callCons 21 c_I6 callNil), fun _ _ _ _ _ => none, Try.f51.results.toList, maskTab 35 [(0, 0x3e67cc03c), (1, 0x100)], maskAt [(2, 3)]⟩
noncomputable def spec_D5 (a : SHeader) (d : SParams) (b c : Int) (k : V -> Option R) : Option R := let e := m_I6 a d; let f := decide (b >= 0); let g : Bool := (bif (e == 0) then f else false); bif (g == true) then let i := m_I3 a; let j := (((List.length i) : Nat) : Int); let m := decide (c >= 0); let o : Bool := (bif (decide (b < j)) then m else false); bif (o == true) then let p := (((List.length a.Components) : Nat) : Int); k (V.bool (decide (c < p))) else k (V.bool false) else k (V.bool false)
abbrev av_D5 (a : SHeader) (b : SParams) (c d : Int) : List V := [(SHeader.v a), (SParams.v b), V.int .i64 c, V.int .i64 d]
theorem spec_D5_eq (a : SHeader) (b : SParams) (c d : Int) (k : V -> Option R) : fnK env_D5 Try.f51 (av_D5 a b c d) k = spec_D5 a b c d k := by kernel_rfl
theorem mk_D5 (h_I3 : G_I3) (h_I6 : G_I6) (h : ∀ (a : SHeader) (b : SParams) (d f : Int), Real (av_D5 a b d f) -> spec_D5 a b d f some = some (V.bool (m_D5 a b d f))) : G_D5 := goodHook1 fun l hp => by
  unfold hp_D5 at hp
  split at hp
  · rename_i g i j m o q r s t u v w y z A B D F H I J K L M N O Q S
    exact fn_ok (fn := Try.f51) (c := bodyOf Try.f51) (E := env_D5) ⟨by kernel_rfl, (goodCons h_I3 (goodCons h_I6 goodNil)), rfl⟩ rfl (by kernel_rfl) (by kernel_rfl) (by kernel_rfl) (loopsOK_of _ (by have e : loopsOf (bodyOf Try.f51) = [] := (by kernel_rfl); rw [e]; intro p hp; cases hp)) (fun hr => (spec_D5_eq (SHeader.mk (SRect.mk g i j m) o q r) (SParams.mk s t u v w y z A (SMode.mk B D F H I) J K L M N O) Q S some).trans (h (SHeader.mk (SRect.mk g i j m) o q r) (SParams.mk s t u v w y z A (SMode.mk B D F H I) J K L M N O) Q S hr))
  · cases hp
theorem au_D5 (a : SHeader) (b : SParams) (c d : Int) : spec_D5 a b c d some = some ((fun (m : Bool) => (V.bool m)) (m_D5 a b c d)) := by
  repeat' (first | rfl | refine bif_t (v := (fun (m : Bool) => (V.bool m))) ?_ ?_)
theorem good_D5_of (h_I3 : G_I3) (h_I6 : G_I6) : G_D5 := mk_D5 h_I3 h_I6 (fun _ _ _ _ _ => au_D5 _ _ _ _)
noncomputable def env_F5 : Env R := ⟨Try.prog, callCons 20 c_I3 (callCons 49 c_G1 (callCons 51 c_D5 callNil)), fun _ _ _ _ _ => none, Try.f22.results.toList, maskTab 20 [(0, 0x1c), (1, 0x81c), (2, 0x40), (3, 0x40)], maskAt [(2, 3), (4, 8), (6, 9)]⟩
noncomputable def spec_F5 (a : SHeader) (b : SParams) (c : Int) (k : V -> Option R) : Option R := let f := m_D5 a b c 0; bif (!f) then k (V.int .i64 0) else let d := m_I3 a; bif (inR c (List.length d)) then let g := List.getD d (Int.toNat c) []; let e := SRect.of g; bif (pre_G1 a b e) then let i := m_G1 a b e; k (V.int .i64 i) else none else none
abbrev av_F5 (a : SHeader) (b : SParams) (c : Int) : List V := [(SHeader.v a), (SParams.v b), V.int .i64 c]
theorem spec_F5_eq (a : SHeader) (b : SParams) (c : Int) (k : V -> Option R) : fnK env_F5 Try.f22 (av_F5 a b c) k = spec_F5 a b c k := by kernel_rfl
theorem mk_F5 (h_I3 : G_I3) (h_G1 : G_G1) (h_D5 : G_D5) (h : ∀ (a : SHeader) (b : SParams) (d : Int), pre_F5 a b d = true -> Real (av_F5 a b d) -> spec_F5 a b d some = some (V.int .i64 (m_F5 a b d))) : G_F5 := goodHook1 fun l hp => by
  unfold hp_F5 at hp
  split at hp
  · rename_i f g i j m o q r s t u v w y z A B D F H I J K L M N O
    exact fn_ok (fn := Try.f22) (c := bodyOf Try.f22) (E := env_F5) ⟨by kernel_rfl, (goodCons h_I3 (goodCons h_G1 (goodCons h_D5 goodNil))), rfl⟩ rfl (by kernel_rfl) (by kernel_rfl) (by kernel_rfl) (loopsOK_of _ (by have e : loopsOf (bodyOf Try.f22) = [] := (by kernel_rfl); rw [e]; intro p hp; cases hp)) (fun hr => (spec_F5_eq (SHeader.mk (SRect.mk f g i j) m o q) (SParams.mk r s t u v w y z (SMode.mk A B D F H) I J K L M N) O some).trans (h (SHeader.mk (SRect.mk f g i j) m o q) (SParams.mk r s t u v w y z (SMode.mk A B D F H) I J K L M N) O hp hr))
  · cases hp
theorem au_F5 (a : SHeader) (b : SParams) (c : Int) : pre_F5 a b c = true -> spec_F5 a b c some = some ((fun (m : Int) => (V.int .i64 m)) (m_F5 a b c)) := by
  repeat' (first | exact fun _ => rfl | exact fun h => absurd h (by decide) | refine bif_p (v := (fun (m : Int) => (V.int .i64 m))) ?_ ?_)
theorem good_F5_of (h_I3 : G_I3) (h_G1 : G_G1) (h_D5 : G_D5) : G_F5 := mk_F5 h_I3 h_G1 h_D5 (fun _ _ _ hp _ => au_F5 _ _ _ hp)
noncomputable def fuel_J9_0 (a b : Int) (c : SHeader) (d : SParams) : Nat := Int.toNat (a - b) + 1
noncomputable def step_J9_0 (d : Int) (b : SHeader) (c : SParams) (a : Int) (again : Int -> Option R) (kn : Int -> Option R) (kr : V -> Option R) : Option R := bif (decide (a < d)) then bif (pre_F5 b c a) then let e := m_F5 b c a; let f := decide (e > 400); bif f then kr (V.bool false) else let g := IntKind.wrap .i64 (a + 1); again g else none else kn a
noncomputable def loop_J9_0 (a : Int) (b : SHeader) (c : SParams) : Nat -> Int -> (Int -> Option R) -> (V -> Option R) -> Option R
  | 0, _, _, _ => none
  | n + 1, d, kn, kr => step_J9_0 a b c d (fun e => loop_J9_0 a b c n e kn kr) kn kr
noncomputable def shape_J9_0 : ST := ⟨.undef :: .undef :: .ptr 0 0 0 :: .ptr 1 0 0 :: unds 51 (.int .i64 :: .int .i64 :: unds 8 []), [(0, .var SHeader.sh false SHeader.ts), (1, .var SParams.sh false SParams.ts)], 58⟩
noncomputable def st_J9_0 (c : Int) (b : SHeader) (a : SParams) (d : Int) : St := shape_J9_0.put [.i c, .i d, .i b.Area.X0, .i b.Area.Y0, .i b.Area.X1, .i b.Area.Y1, .i b.TileW, .i b.TileH, .r b.Components, .i a.Kernel, .i a.Levels, .i a.Color, .i a.BlockX, .i a.BlockY, .r a.Precincts, .i a.Order, .i a.Layers, .b a.Mode.Bypass, .b a.Mode.Restart, .b a.Mode.Reset, .b a.Mode.Causal, .b a.Mode.Symbols, .b a.Divide, .b a.Sync, .b a.Fence, .r a.Steps, .i a.Dead, .i a.Shift]
noncomputable def hook_J9_0 : LoopG R := fun l kn _ kr => match l with
  | .i a :: .i I :: .i b :: .i c :: .i d :: .i e :: .i f :: .i g :: .r i :: .i j :: .i m :: .i o :: .i p :: .i q :: .r r :: .i s :: .i t :: .b u :: .b v :: .b w :: .b y :: .b z :: .b A :: .b B :: .b D :: .r E :: .i F :: .i H :: [] => loop_J9_0 a (SHeader.mk (SRect.mk b c d e) f g i) (SParams.mk j m o p q r s t (SMode.mk u v w y z) A B D E F H) (fuel_J9_0 a I (SHeader.mk (SRect.mk b c d e) f g i) (SParams.mk j m o p q r s t (SMode.mk u v w y z) A B D E F H)) I (fun J => kn (st_J9_0 a (SHeader.mk (SRect.mk b c d e) f g i) (SParams.mk j m o p q r s t (SMode.mk u v w y z) A B D E F H) J)) kr
  | _ => none
noncomputable def env_J9 : Env R := ⟨Try.prog, callCons 19 c_H4 (callCons 20 c_I3 (callCons 21 c_I6 (callCons 22 c_F5 callNil))), fun id => bif Nat.beq id 0 then loopAlt shape_J9_0 hook_J9_0 loopNil else (fun _ _ _ _ _ => none) id, Try.f11.results.toList, maskTab 65 [(0, 0xf3fc001e780c), (1, 0xf3fc0020000c), (2, 0x10), (3, 0xf3fc0100000c), (4, 0x10), (5, 0x100000000000c), (6, 0x10), (7, 0x1000000000000c), (8, 0x10), (9, 0x18000000000000c), (10, 0x38000000000000c), (11, 0x18000000000002c), (12, 0x818000000000000c), (13, 0x10), (14, 0x18000000000000c), (15, 0x10)], maskAt [(1, 58), (2, 3), (4, 19), (6, 20), (8, 23), (10, 24), (12, 48), (14, 49), (16, 53), (18, 54), (20, 62), (22, 63), (24, 65), (26, 70), (28, 71), (30, 73)]⟩
theorem step_J9_0_eq (a : Int) (b : SHeader) (c : SParams) (e : Int) (kn : St -> Option R) (kx : Nat -> St -> Option R) (kr : V -> Option R) (n : Nat) (f : Int) :
    loopN env_J9 0 (loopAt Try.f11 0) (st_J9_0 a b c e) kn kx kr (n + 1) (st_J9_0 a b c f) =
    step_J9_0 a b c f (fun d => loopN env_J9 0 (loopAt Try.f11 0) (st_J9_0 a b c e) kn kx kr n (st_J9_0 a b c d)) (fun d => kn (st_J9_0 a b c d)) kr := by kernel_rfl
theorem loop_J9_0_eq (a : Int) (b : SHeader) (c : SParams) (f : Int) (kn : St -> Option R) (kx : Nat -> St -> Option R) (kr : V -> Option R) : ∀ (n : Nat) (d : Int),
    loop_J9_0 a b c n d (fun e => kn (st_J9_0 a b c e)) kr = loopN env_J9 0 (loopAt Try.f11 0) (st_J9_0 a b c f) kn kx kr n (st_J9_0 a b c d)
  | 0, _ => rfl
  | n + 1, d => by
    rw [step_J9_0_eq, loop_J9_0]
    congr 1
    funext e
    exact loop_J9_0_eq a b c f kn kx kr n e
theorem goodl_J9_0 {rest} (h : GoodL (R := R) env_J9 0 (loopAt Try.f11 0) rest) : GoodL (R := R) env_J9 0 (loopAt Try.f11 0) (loopAlt shape_J9_0 hook_J9_0 rest) := by
  refine goodL_alt (fun l kn kx kr r h => ?_) h
  unfold hook_J9_0 at h
  split at h
  · rename_i b a c d e f g i j m o p q s t u v w y z A B D E F H I J
    exact ⟨_, (loop_J9_0_eq b (SHeader.mk (SRect.mk c d e f) g i j) (SParams.mk m o p q s t u v (SMode.mk w y z A B) D E F H I J) a kn kx kr _ a).symm.trans h⟩
  · cases h
theorem good_J9_0 : GoodLoop (R := R) env_J9 0 (loopAt Try.f11 0) := goodL_loop (g := loopAlt shape_J9_0 hook_J9_0 loopNil) (fun _ _ _ _ => rfl) (goodl_J9_0 goodL_nil)
noncomputable def spec_J9 (a : SHeader) (b : SParams) (k : V -> Option R) : Option R := let d := (((List.length a.Components) : Nat) : Int); let e := decide (d > 10); bif (e == false) then let f := (((List.length b.Precincts) : Nat) : Int); let g := decide (f > 10); bif (g == false) then let i := (((List.length b.Steps) : Nat) : Int); let j := decide (i > 40); bif j then k (V.bool false) else let m := m_H4 a; bif (m != 0) then k (V.bool true) else let o := IntKind.wrap .i64 (a.Area.X1 - a.Area.X0); let p := decide (o > 40); let q := IntKind.wrap .i64 (a.Area.Y1 - a.Area.Y0); let r := decide (q > 40); let s : Bool := (bif p then true else r); bif (s == false) then let t := m_I3 a; let u := (((List.length t) : Nat) : Int); let v := decide (u > 16); bif v then k (V.bool false) else let w := m_I6 a b; bif (w != 0) then k (V.bool true) else let y := m_I3 a; let c := (((List.length y) : Nat) : Int); loop_J9_0 c a b (fuel_J9_0 c 0 a b) 0 (fun z => k (V.bool true)) k else k (V.bool false) else k (V.bool false) else k (V.bool false)
abbrev av_J9 (a : SHeader) (b : SParams) : List V := [(SHeader.v a), (SParams.v b)]
theorem spec_J9_eq (a : SHeader) (b : SParams) (k : V -> Option R) : fnK env_J9 Try.f11 (av_J9 a b) k = spec_J9 a b k := by kernel_rfl
theorem mk_J9 (h_H4 : G_H4) (h_I3 : G_I3) (h_I6 : G_I6) (h_F5 : G_F5) (h : ∀ (a : SHeader) (b : SParams), Real (av_J9 a b) -> spec_J9 a b some = some (V.bool (m_J9 a b))) : G_J9 := goodHook1 fun l hp => by
  unfold hp_J9 at hp
  split at hp
  · rename_i d f g i j m o p q r s t u v w y z A B D F H I J K L
    exact fn_ok (fn := Try.f11) (c := bodyOf Try.f11) (E := env_J9) ⟨by kernel_rfl, (goodCons h_H4 (goodCons h_I3 (goodCons h_I6 (goodCons h_F5 goodNil)))), rfl⟩ rfl (by kernel_rfl) (by kernel_rfl) (by kernel_rfl) (loopsOK_of _ (by have e : loopsOf (bodyOf Try.f11) = [(0, loopAt Try.f11 0)] := (by kernel_rfl); rw [e]; simp only [List.forall_mem_cons, List.not_mem_nil, false_implies, implies_true, and_true]; exact good_J9_0)) (fun hr => (spec_J9_eq (SHeader.mk (SRect.mk d f g i) j m o) (SParams.mk p q r s t u v w (SMode.mk y z A B D) F H I J K L) some).trans (h (SHeader.mk (SRect.mk d f g i) j m o) (SParams.mk p q r s t u v w (SMode.mk y z A B D) F H I J K L) hr))
  · cases hp
noncomputable def env_H1 : Env R := ⟨Try.prog, callNil, fun _ _ _ _ _ => none, Try.f34.results.toList, maskTab 35 [(0, 0x39f39cf82), (1, 0x4)], maskAt [(2, 2)]⟩
noncomputable def spec_H1 (a : SRect) (k : V -> Option R) : Option R := let b := decide (0 <= a.X0); let c : Bool := (bif b then (decide (a.X0 <= a.X1)) else false); let d := decide (a.X1 <= 4096); let e : Bool := (bif c then d else false); let f := decide (0 <= a.Y0); let g : Bool := (bif e then f else false); let i : Bool := (bif g then (decide (a.Y0 <= a.Y1)) else false); let j := decide (a.Y1 <= 4096); let m : Bool := (bif i then j else false); k (V.bool m)
abbrev av_H1 (a : SRect) : List V := [(SRect.v a)]
theorem spec_H1_eq (a : SRect) (k : V -> Option R) : fnK env_H1 Try.f34 (av_H1 a) k = spec_H1 a k := by kernel_rfl
theorem mk_H1 (h : ∀ (a : SRect), Real (av_H1 a) -> spec_H1 a some = some (V.bool (m_H1 a))) : G_H1 := goodHook1 fun l hp => by
  unfold hp_H1 at hp
  split at hp
  · rename_i b d f g
    exact fn_ok (fn := Try.f34) (c := bodyOf Try.f34) (E := env_H1) ⟨by kernel_rfl, goodNil, rfl⟩ rfl (by kernel_rfl) (by kernel_rfl) (by kernel_rfl) (loopsOK_of _ (by have e : loopsOf (bodyOf Try.f34) = [] := (by kernel_rfl); rw [e]; intro p hp; cases hp)) (fun hr => (spec_H1_eq (SRect.mk b d f g) some).trans (h (SRect.mk b d f g) hr))
  · cases hp
theorem au_H1 (a : SRect) : spec_H1 a some = some ((fun (m : Bool) => (V.bool m)) (m_H1 a)) := by
  repeat' (first | rfl | refine bif_t (v := (fun (m : Bool) => (V.bool m))) ?_ ?_)
theorem good_H1_of : G_H1 := mk_H1 (fun _ _ => au_H1 _)
noncomputable def env_H2 : Env R := ⟨Try.prog, callNil, fun _ _ _ _ _ => none, Try.f35.results.toList, maskTab 15 [(0, 0x3e02), (1, 0x4)], maskAt [(2, 2)]⟩
noncomputable def spec_H2 (a : SRect) (k : V -> Option R) : Option R := let b : Bool := (bif (decide (a.X0 >= a.X1)) then true else (decide (a.Y0 >= a.Y1))); k (V.bool b)
abbrev av_H2 (a : SRect) : List V := [(SRect.v a)]
theorem spec_H2_eq (a : SRect) (k : V -> Option R) : fnK env_H2 Try.f35 (av_H2 a) k = spec_H2 a k := by kernel_rfl
theorem mk_H2 (h : ∀ (a : SRect), Real (av_H2 a) -> spec_H2 a some = some (V.bool (m_H2 a))) : G_H2 := goodHook1 fun l hp => by
  unfold hp_H2 at hp
  split at hp
  · rename_i b d f g
    exact fn_ok (fn := Try.f35) (c := bodyOf Try.f35) (E := env_H2) ⟨by kernel_rfl, goodNil, rfl⟩ rfl (by kernel_rfl) (by kernel_rfl) (by kernel_rfl) (loopsOK_of _ (by have e : loopsOf (bodyOf Try.f35) = [] := (by kernel_rfl); rw [e]; intro p hp; cases hp)) (fun hr => (spec_H2_eq (SRect.mk b d f g) some).trans (h (SRect.mk b d f g) hr))
  · cases hp
theorem au_H2 (a : SRect) : spec_H2 a some = some ((fun (m : Bool) => (V.bool m)) (m_H2 a)) := by
  repeat' (first | rfl | refine bif_t (v := (fun (m : Bool) => (V.bool m))) ?_ ?_)
theorem good_H2_of : G_H2 := mk_H2 (fun _ _ => au_H2 _)
noncomputable def env_E3 : Env R := ⟨Try.prog, callNil, fun _ _ _ _ _ => none, Try.f66.results.toList, maskTab 18 [(0, 0x3), (1, 0x83), (2, 0x10), (3, 0x23), (4, 0x4020), (5, 0x20), (6, 0x10)], maskAt [(2, 1), (4, 3), (6, 4), (8, 8), (10, 12), (12, 15)]⟩
noncomputable def spec_E3 (b a : Int) (k : V -> Option R) : Option R := let d := decide (a < 1); bif d then k (V.int .i64 0) else bif (a != 0) then let c := IntKind.wrap .i64 (Int.tdiv b a); bif (a != 0) then let e := decide ((Int.tmod b a) > 0); bif e then let f := IntKind.wrap .i64 (c + 1); k (V.int .i64 f) else k (V.int .i64 c) else none else none
abbrev av_E3 (a b : Int) : List V := [V.int .i64 a, V.int .i64 b]
theorem spec_E3_eq (a b : Int) (k : V -> Option R) : fnK env_E3 Try.f66 (av_E3 a b) k = spec_E3 a b k := by kernel_rfl
theorem mk_E3 (h : ∀ (a b : Int), Real (av_E3 a b) -> spec_E3 a b some = some (V.int .i64 (m_E3 a b))) : G_E3 := goodHook1 fun l hp => by
  unfold hp_E3 at hp
  split at hp
  · rename_i d f
    exact fn_ok (fn := Try.f66) (c := bodyOf Try.f66) (E := env_E3) ⟨by kernel_rfl, goodNil, rfl⟩ rfl (by kernel_rfl) (by kernel_rfl) (by kernel_rfl) (loopsOK_of _ (by have e : loopsOf (bodyOf Try.f66) = [] := (by kernel_rfl); rw [e]; intro p hp; cases hp)) (fun hr => (spec_E3_eq d f some).trans (h d f hr))
  · cases hp
theorem au_E3 (a b : Int) : pre_E3 a b = true -> spec_E3 a b some = some ((fun (m : Int) => (V.int .i64 m)) (m_E3 a b)) := by
  repeat' (first | exact fun _ => rfl | exact fun h => absurd h (by decide) | refine bif_p (v := (fun (m : Int) => (V.int .i64 m))) ?_ ?_)
theorem good_E3_of : G_E3 := mk_E3 (fun _ _ _ => au_E3 _ _ (pt_E3 _ _))
noncomputable def env_F4 : Env R := ⟨Try.prog, callCons 34 c_H1 (callCons 66 c_E3 callNil), fun _ _ _ _ _ => none, Try.f54.results.toList, maskTab 44 [(0, 0x199984e), (1, 0x200004e), (2, 0x40), (3, 0x40)], maskAt [(2, 2), (4, 21), (6, 23)]⟩
noncomputable def spec_F4 (a : SRect) (b c : Int) (k : V -> Option R) : Option R := let d := m_H1 a; let e := decide (b < 1); let f : Bool := (bif (!d) then true else e); let g := decide (b > 4096); let i : Bool := (bif f then true else g); let j := decide (c < 1); let m : Bool := (bif i then true else j); let o := decide (c > 4096); let p : Bool := (bif m then true else o); bif p then k (V.agg [(V.int .i64 0), (V.int .i64 0), (V.int .i64 0), (V.int .i64 0)]) else let q := m_E3 a.X0 b; let r := m_E3 a.Y0 c; let s := m_E3 a.X1 b; let t := m_E3 a.Y1 c; k (V.agg [V.int .i64 q, V.int .i64 r, V.int .i64 s, V.int .i64 t])
abbrev av_F4 (a : SRect) (b c : Int) : List V := [(SRect.v a), V.int .i64 b, V.int .i64 c]
theorem spec_F4_eq (a : SRect) (b c : Int) (k : V -> Option R) : fnK env_F4 Try.f54 (av_F4 a b c) k = spec_F4 a b c k := by kernel_rfl
theorem mk_F4 (h_H1 : G_H1) (h_E3 : G_E3) (h : ∀ (a : SRect) (b d : Int), Real (av_F4 a b d) -> spec_F4 a b d some = some (SRect.v (m_F4 a b d))) : G_F4 := goodHook1 fun l hp => by
  unfold hp_F4 at hp
  split at hp
  · rename_i f g i j m o
    exact fn_ok (fn := Try.f54) (c := bodyOf Try.f54) (E := env_F4) ⟨by kernel_rfl, (goodCons h_H1 (goodCons h_E3 goodNil)), rfl⟩ rfl (by kernel_rfl) (by kernel_rfl) (by kernel_rfl) (loopsOK_of _ (by have e : loopsOf (bodyOf Try.f54) = [] := (by kernel_rfl); rw [e]; intro p hp; cases hp)) (fun hr => (spec_F4_eq (SRect.mk f g i j) m o some).trans (h (SRect.mk f g i j) m o hr))
  · cases hp
theorem au_F4 (a : SRect) (b c : Int) : spec_F4 a b c some = some ((fun (m : SRect) => (SRect.v m)) (m_F4 a b c)) := by
  repeat' (first | rfl | refine bif_t (v := (fun (m : SRect) => (SRect.v m))) ?_ ?_)
theorem good_F4_of (h_H1 : G_H1) (h_E3 : G_E3) : G_F4 := mk_F4 h_H1 h_E3 (fun _ _ _ _ => au_F4 _ _ _)
noncomputable def fuel_D8_0 (c d : Int) (e : Rows) (a b : Int) : Nat := Int.toNat (a - b) + 1
noncomputable def step_D8_0 (d e : Int) (b : Rows) (f : Int) (a : Int) (again : Int -> Option R) (kn : Int -> Option R) (kr : V -> Option R) : Option R := bif (decide (a < f)) then bif (inR a (List.length b)) then let g := List.getD b (Int.toNat a) []; let c := V.toInt (List.getD g 0 V.undef); let i : Bool := (bif (decide (c < d)) then true else (decide (c > e))); bif i then kr (V.bool false) else let j := IntKind.wrap .i64 (a + 1); again j else none else kn a
noncomputable def loop_D8_0 (a b : Int) (c : Rows) (d : Int) : Nat -> Int -> (Int -> Option R) -> (V -> Option R) -> Option R
  | 0, _, _, _ => none
  | n + 1, e, kn, kr => step_D8_0 a b c d e (fun f => loop_D8_0 a b c d n f kn kr) kn kr
noncomputable def shape_D8_0 : ST := ⟨.int .i64 :: .int .i64 :: unds 7 (.data [.int .i64] :: .int .i64 :: .int .i64 :: unds 12 []), [], 4⟩
noncomputable def st_D8_0 (a b : Int) (c : Rows) (d : Int) (e : Int) : St := shape_D8_0.put [.i a, .i b, .r c, .i d, .i e]
noncomputable def hook_D8_0 : LoopG R := fun l kn _ kr => match l with
  | .i a :: .i b :: .r c :: .i d :: .i e :: [] => loop_D8_0 a b c d (fuel_D8_0 a b c d e) e (fun f => kn (st_D8_0 a b c d f)) kr
  | _ => none
noncomputable def env_D8 : Env R := ⟨Try.prog, callNil, fun id => bif Nat.beq id 0 then loopAlt shape_D8_0 hook_D8_0 loopNil else (fun _ _ _ _ _ => none) id, Try.f65.results.toList, maskTab 24 [(0, 0x380007), (1, 0x380e03), (2, 0x381e03), (3, 0x380f03), (4, 0x780e03), (5, 0x40), (6, 0x380e03), (7, 0x40)], maskAt [(1, 4), (2, 1), (4, 8), (6, 9), (8, 12), (10, 20), (12, 21), (14, 23)]⟩
theorem step_D8_0_eq (a b : Int) (c : Rows) (d : Int) (f : Int) (kn : St -> Option R) (kx : Nat -> St -> Option R) (kr : V -> Option R) (n : Nat) (g : Int) :
    loopN env_D8 0 (loopAt Try.f65 0) (st_D8_0 a b c d f) kn kx kr (n + 1) (st_D8_0 a b c d g) =
    step_D8_0 a b c d g (fun e => loopN env_D8 0 (loopAt Try.f65 0) (st_D8_0 a b c d f) kn kx kr n (st_D8_0 a b c d e)) (fun e => kn (st_D8_0 a b c d e)) kr := by kernel_rfl
theorem loop_D8_0_eq (a b : Int) (c : Rows) (d : Int) (g : Int) (kn : St -> Option R) (kx : Nat -> St -> Option R) (kr : V -> Option R) : ∀ (n : Nat) (e : Int),
    loop_D8_0 a b c d n e (fun f => kn (st_D8_0 a b c d f)) kr = loopN env_D8 0 (loopAt Try.f65 0) (st_D8_0 a b c d g) kn kx kr n (st_D8_0 a b c d e)
  | 0, _ => rfl
  | n + 1, e => by
    rw [step_D8_0_eq, loop_D8_0]
    congr 1
    funext f
    exact loop_D8_0_eq a b c d g kn kx kr n f
theorem goodl_D8_0 {rest} (h : GoodL (R := R) env_D8 0 (loopAt Try.f65 0) rest) : GoodL (R := R) env_D8 0 (loopAt Try.f65 0) (loopAlt shape_D8_0 hook_D8_0 rest) := by
  refine goodL_alt (fun l kn kx kr r h => ?_) h
  unfold hook_D8_0 at h
  split at h
  · rename_i b c d e a
    exact ⟨_, (loop_D8_0_eq b c d e a kn kx kr _ a).symm.trans h⟩
  · cases h
theorem good_D8_0 : GoodLoop (R := R) env_D8 0 (loopAt Try.f65 0) := goodL_loop (g := loopAlt shape_D8_0 hook_D8_0 loopNil) (fun _ _ _ _ => rfl) (goodl_D8_0 goodL_nil)
noncomputable def spec_D8 (b c : Int) (a : Rows) (k : V -> Option R) : Option R := let d := (((List.length a) : Nat) : Int); loop_D8_0 b c a d (fuel_D8_0 b c a d 0) 0 (fun e => k (V.bool true)) k
abbrev av_D8 (a b : Int) (c : Rows) : List V := [V.int .i64 a, V.int .i64 b, (V.data [.int .i64] c)]
theorem spec_D8_eq (a b : Int) (c : Rows) (k : V -> Option R) : fnK env_D8 Try.f65 (av_D8 a b c) k = spec_D8 a b c k := by kernel_rfl
theorem mk_D8 (h : ∀ (a b : Int) (d : Rows), pre_D8 a b d = true -> Real (av_D8 a b d) -> spec_D8 a b d some = some (V.bool (m_D8 a b d))) : G_D8 := goodHook1 fun l hp => by
  unfold hp_D8 at hp
  split at hp
  · rename_i f g i
    exact fn_ok (fn := Try.f65) (c := bodyOf Try.f65) (E := env_D8) ⟨by kernel_rfl, goodNil, rfl⟩ rfl (by kernel_rfl) (by kernel_rfl) (by kernel_rfl) (loopsOK_of _ (by have e : loopsOf (bodyOf Try.f65) = [(0, loopAt Try.f65 0)] := (by kernel_rfl); rw [e]; simp only [List.forall_mem_cons, List.not_mem_nil, false_implies, implies_true, and_true]; exact good_D8_0)) (fun hr => (spec_D8_eq f g i some).trans (h f g i hp hr))
  · cases hp
noncomputable def env_D1 : Env R := ⟨Try.prog, callNil, fun _ _ _ _ _ => none, Try.f67.results.toList, maskTab 18 [(0, 0x3), (1, 0x83), (2, 0x10), (3, 0x23), (4, 0x4020), (5, 0x20), (6, 0x10)], maskAt [(2, 1), (4, 3), (6, 4), (8, 8), (10, 12), (12, 15)]⟩
noncomputable def spec_D1 (b a : Int) (k : V -> Option R) : Option R := let d := decide (a < 1); bif d then k (V.int .i64 0) else bif (a != 0) then let c := IntKind.wrap .i64 (Int.tdiv b a); bif (a != 0) then let e := decide ((Int.tmod b a) < 0); bif e then let f := IntKind.wrap .i64 (c - 1); k (V.int .i64 f) else k (V.int .i64 c) else none else none
abbrev av_D1 (a b : Int) : List V := [V.int .i64 a, V.int .i64 b]
theorem spec_D1_eq (a b : Int) (k : V -> Option R) : fnK env_D1 Try.f67 (av_D1 a b) k = spec_D1 a b k := by kernel_rfl
theorem mk_D1 (h : ∀ (a b : Int), Real (av_D1 a b) -> spec_D1 a b some = some (V.int .i64 (m_D1 a b))) : G_D1 := goodHook1 fun l hp => by
  unfold hp_D1 at hp
  split at hp
  · rename_i d f
    exact fn_ok (fn := Try.f67) (c := bodyOf Try.f67) (E := env_D1) ⟨by kernel_rfl, goodNil, rfl⟩ rfl (by kernel_rfl) (by kernel_rfl) (by kernel_rfl) (loopsOK_of _ (by have e : loopsOf (bodyOf Try.f67) = [] := (by kernel_rfl); rw [e]; intro p hp; cases hp)) (fun hr => (spec_D1_eq d f some).trans (h d f hr))
  · cases hp
theorem au_D1 (a b : Int) : pre_D1 a b = true -> spec_D1 a b some = some ((fun (m : Int) => (V.int .i64 m)) (m_D1 a b)) := by
  repeat' (first | exact fun _ => rfl | exact fun h => absurd h (by decide) | refine bif_p (v := (fun (m : Int) => (V.int .i64 m))) ?_ ?_)
theorem good_D1_of : G_D1 := mk_D1 (fun _ _ _ => au_D1 _ _ (pt_D1 _ _))
noncomputable def env_H9 : Env R := ⟨Try.prog, callCons 34 c_H1 callNil, fun _ _ _ _ _ => none, Try.f68.results.toList, maskTab 17 [(0, 0x2), (1, 0x22), (2, 0x4), (3, 0x4)], maskAt [(2, 2), (4, 5), (6, 6)]⟩
noncomputable def spec_H9 (a : SRect) (k : V -> Option R) : Option R := let b := m_H1 a; bif (!b) then k (V.int .i64 0) else let c := IntKind.wrap .i64 (a.X1 - a.X0); let d := IntKind.wrap .i64 (a.Y1 - a.Y0); let e := IntKind.wrap .i64 (c * d); k (V.int .i64 e)
abbrev av_H9 (a : SRect) : List V := [(SRect.v a)]
theorem spec_H9_eq (a : SRect) (k : V -> Option R) : fnK env_H9 Try.f68 (av_H9 a) k = spec_H9 a k := by kernel_rfl
theorem mk_H9 (h_H1 : G_H1) (h : ∀ (a : SRect), Real (av_H9 a) -> spec_H9 a some = some (V.int .i64 (m_H9 a))) : G_H9 := goodHook1 fun l hp => by
  unfold hp_H9 at hp
  split at hp
  · rename_i b d f g
    exact fn_ok (fn := Try.f68) (c := bodyOf Try.f68) (E := env_H9) ⟨by kernel_rfl, (goodCons h_H1 goodNil), rfl⟩ rfl (by kernel_rfl) (by kernel_rfl) (by kernel_rfl) (loopsOK_of _ (by have e : loopsOf (bodyOf Try.f68) = [] := (by kernel_rfl); rw [e]; intro p hp; cases hp)) (fun hr => (spec_H9_eq (SRect.mk b d f g) some).trans (h (SRect.mk b d f g) hr))
  · cases hp
theorem au_H9 (a : SRect) : spec_H9 a some = some ((fun (m : Int) => (V.int .i64 m)) (m_H9 a)) := by
  repeat' (first | rfl | refine bif_t (v := (fun (m : Int) => (V.int .i64 m))) ?_ ?_)
theorem good_H9_of (h_H1 : G_H1) : G_H9 := mk_H9 h_H1 (fun _ _ => au_H9 _)
noncomputable def fuel_C9_0 (c : Rows) (a b : Int) (d : SHeader) : Nat := Int.toNat (a - b) + 1
noncomputable def step_C9_0 (c : Rows) (d : Int) (e : SHeader) (b : Int) (again : Int -> Option R) (kn : Int -> Option R) (kr : V -> Option R) : Option R := bif (decide (b < d)) then bif (inR b (List.length c)) then let f := List.getD c (Int.toNat b) []; let a := SComponent.of f; bif (pre_D8 1 16 [[V.int .i64 a.Depth]]) then let g := m_D8 1 16 [[V.int .i64 a.Depth]]; bif ((!g) == false) then bif (pre_D8 1 4 [[V.int .i64 a.DX], [V.int .i64 a.DY]]) then let i := m_D8 1 4 [[V.int .i64 a.DX], [V.int .i64 a.DY]]; bif ((!i) == false) then let j := m_F4 e.Area a.DX a.DY; let m := m_H2 j; bif m then kr (V.int .i64 12) else let o := IntKind.wrap .i64 (b + 1); again o else kr (V.int .i64 12) else none else kr (V.int .i64 12) else none else none else kn b
noncomputable def loop_C9_0 (a : Rows) (b : Int) (c : SHeader) : Nat -> Int -> (Int -> Option R) -> (V -> Option R) -> Option R
  | 0, _, _, _ => none
  | n + 1, d, kn, kr => step_C9_0 a b c d (fun e => loop_C9_0 a b c n e kn kr) kn kr
noncomputable def shape_C9_0 : ST := ⟨.undef :: .ptr 0 0 0 :: unds 34 (.data SComponent.sh :: .int .i64 :: .int .i64 :: unds 75 []), [(0, .var SHeader.sh false SHeader.ts)], 33⟩
noncomputable def st_C9_0 (b : Rows) (c : Int) (a : SHeader) (d : Int) : St := shape_C9_0.put [.r b, .i c, .i d, .i a.Area.X0, .i a.Area.Y0, .i a.Area.X1, .i a.Area.Y1, .i a.TileW, .i a.TileH, .r a.Components]
noncomputable def hook_C9_0 : LoopG R := fun l kn _ kr => match l with
  | .r a :: .i b :: .i m :: .i c :: .i d :: .i e :: .i f :: .i g :: .i i :: .r j :: [] => loop_C9_0 a b (SHeader.mk (SRect.mk c d e f) g i j) (fuel_C9_0 a b m (SHeader.mk (SRect.mk c d e f) g i j)) m (fun o => kn (st_C9_0 a b (SHeader.mk (SRect.mk c d e f) g i j) o)) kr
  | _ => none
noncomputable def fuel_C9_2 (c : Rows) (a b : Int) (d : SHeader) : Nat := Int.toNat (a - b) + 1
noncomputable def step_C9_2 (b : Rows) (d : Int) (e : SHeader) (a : Int) (again : Int -> Option R) (kn : Int -> Option R) (kr : V -> Option R) : Option R := bif (decide (a < d)) then bif (inR a (List.length b)) then let f := List.getD b (Int.toNat a) []; let c := SComponent.of f; let g := m_F4 e.Area c.DX c.DY; let i := m_H9 g; let j := decide (i > 1048576); bif j then kr (V.int .i64 5) else let m := IntKind.wrap .i64 (a + 1); again m else none else kn a
noncomputable def loop_C9_2 (a : Rows) (b : Int) (c : SHeader) : Nat -> Int -> (Int -> Option R) -> (V -> Option R) -> Option R
  | 0, _, _, _ => none
  | n + 1, d, kn, kr => step_C9_2 a b c d (fun e => loop_C9_2 a b c n e kn kr) kn kr
noncomputable def shape_C9_2 : ST := ⟨.undef :: .ptr 0 0 0 :: unds 96 (.data SComponent.sh :: .int .i64 :: .int .i64 :: unds 13 []), [(0, .var SHeader.sh false SHeader.ts)], 106⟩
noncomputable def st_C9_2 (b : Rows) (c : Int) (a : SHeader) (d : Int) : St := shape_C9_2.put [.r b, .i c, .i d, .i a.Area.X0, .i a.Area.Y0, .i a.Area.X1, .i a.Area.Y1, .i a.TileW, .i a.TileH, .r a.Components]
noncomputable def hook_C9_2 : LoopG R := fun l kn _ kr => match l with
  | .r a :: .i b :: .i m :: .i c :: .i d :: .i e :: .i f :: .i g :: .i i :: .r j :: [] => loop_C9_2 a b (SHeader.mk (SRect.mk c d e f) g i j) (fuel_C9_2 a b m (SHeader.mk (SRect.mk c d e f) g i j)) m (fun o => kn (st_C9_2 a b (SHeader.mk (SRect.mk c d e f) g i j) o)) kr
  | _ => none
noncomputable def env_C9 : Env R := ⟨Try.prog, callCons 34 c_H1 (callCons 35 c_H2 (callCons 54 c_F4 (callCons 65 c_D8 (callCons 66 c_E3 (callCons 67 c_D1 (callCons 68 c_H9 callNil)))))), fun id => bif Nat.beq id 0 then loopAlt shape_C9_0 hook_C9_0 loopNil else (fun id => bif Nat.beq id 2 then loopAlt shape_C9_2 hook_C9_2 loopNil else (fun _ _ _ _ _ => none) id) id, Try.f33.results.toList, maskTab 114 [(0, 0x1fe7f0003f3f9c002), (1, 0x1fe7f000400000002), (2, 0x4), (3, 0x1fe7f007000000002), (4, 0x1fe7f00f000000002), (5, 0x1fe7f007000000012), (6, 0x3fe7f007000000002), (7, 0x4), (8, 0x1fe7f007000000002), (9, 0x22), (10, 0x62), (11, 0x1000000000000000000000002), (12, 0x4), (13, 0x1c000000000000000000000002), (14, 0x3c000000000000000000000002), (15, 0x1c000000000000000000000102), (16, 0x1001c000000000000000000000002), (17, 0x4), (18, 0x1c000000000000000000000002), (19, 0x4)], maskAt [(1, 33), (2, 2), (4, 28), (5, 106), (6, 29), (8, 37), (10, 38), (12, 42), (14, 66), (16, 67), (18, 69), (20, 83), (22, 97), (24, 101), (26, 102), (28, 110), (30, 111), (32, 115), (34, 124), (36, 125), (38, 127)]⟩
theorem step_C9_0_eq (a : Rows) (b : Int) (c : SHeader) (e : Int) (kn : St -> Option R) (kx : Nat -> St -> Option R) (kr : V -> Option R) (n : Nat) (f : Int) :
    loopN env_C9 0 (loopAt Try.f33 0) (st_C9_0 a b c e) kn kx kr (n + 1) (st_C9_0 a b c f) =
    step_C9_0 a b c f (fun d => loopN env_C9 0 (loopAt Try.f33 0) (st_C9_0 a b c e) kn kx kr n (st_C9_0 a b c d)) (fun d => kn (st_C9_0 a b c d)) kr := by kernel_rfl
theorem loop_C9_0_eq (a : Rows) (b : Int) (c : SHeader) (f : Int) (kn : St -> Option R) (kx : Nat -> St -> Option R) (kr : V -> Option R) : ∀ (n : Nat) (d : Int),
    loop_C9_0 a b c n d (fun e => kn (st_C9_0 a b c e)) kr = loopN env_C9 0 (loopAt Try.f33 0) (st_C9_0 a b c f) kn kx kr n (st_C9_0 a b c d)
  | 0, _ => rfl
  | n + 1, d => by
    rw [step_C9_0_eq, loop_C9_0]
    congr 1
    funext e
    exact loop_C9_0_eq a b c f kn kx kr n e
theorem goodl_C9_0 {rest} (h : GoodL (R := R) env_C9 0 (loopAt Try.f33 0) rest) : GoodL (R := R) env_C9 0 (loopAt Try.f33 0) (loopAlt shape_C9_0 hook_C9_0 rest) := by
  refine goodL_alt (fun l kn kx kr r h => ?_) h
  unfold hook_C9_0 at h
  split at h
  · rename_i b c a d e f g i j m
    exact ⟨_, (loop_C9_0_eq b c (SHeader.mk (SRect.mk d e f g) i j m) a kn kx kr _ a).symm.trans h⟩
  · cases h
theorem step_C9_2_eq (a : Rows) (b : Int) (c : SHeader) (e : Int) (kn : St -> Option R) (kx : Nat -> St -> Option R) (kr : V -> Option R) (n : Nat) (f : Int) :
    loopN env_C9 2 (loopAt Try.f33 1) (st_C9_2 a b c e) kn kx kr (n + 1) (st_C9_2 a b c f) =
    step_C9_2 a b c f (fun d => loopN env_C9 2 (loopAt Try.f33 1) (st_C9_2 a b c e) kn kx kr n (st_C9_2 a b c d)) (fun d => kn (st_C9_2 a b c d)) kr := by kernel_rfl
theorem loop_C9_2_eq (a : Rows) (b : Int) (c : SHeader) (f : Int) (kn : St -> Option R) (kx : Nat -> St -> Option R) (kr : V -> Option R) : ∀ (n : Nat) (d : Int),
    loop_C9_2 a b c n d (fun e => kn (st_C9_2 a b c e)) kr = loopN env_C9 2 (loopAt Try.f33 1) (st_C9_2 a b c f) kn kx kr n (st_C9_2 a b c d)
  | 0, _ => rfl
  | n + 1, d => by
    rw [step_C9_2_eq, loop_C9_2]
    congr 1
    funext e
    exact loop_C9_2_eq a b c f kn kx kr n e
theorem goodl_C9_2 {rest} (h : GoodL (R := R) env_C9 2 (loopAt Try.f33 1) rest) : GoodL (R := R) env_C9 2 (loopAt Try.f33 1) (loopAlt shape_C9_2 hook_C9_2 rest) := by
  refine goodL_alt (fun l kn kx kr r h => ?_) h
  unfold hook_C9_2 at h
  split at h
  · rename_i b c a d e f g i j m
    exact ⟨_, (loop_C9_2_eq b c (SHeader.mk (SRect.mk d e f g) i j m) a kn kx kr _ a).symm.trans h⟩
  · cases h
theorem good_C9_0 : GoodLoop (R := R) env_C9 0 (loopAt Try.f33 0) := goodL_loop (g := loopAlt shape_C9_0 hook_C9_0 loopNil) (fun _ _ _ _ => rfl) (goodl_C9_0 goodL_nil)
theorem good_C9_2 : GoodLoop (R := R) env_C9 2 (loopAt Try.f33 1) := goodL_loop (g := loopAlt shape_C9_2 hook_C9_2 loopNil) (fun _ _ _ _ => rfl) (goodl_C9_2 goodL_nil)
noncomputable def spec_C9 (a : SHeader) (k : V -> Option R) : Option R := let e := m_H1 a.Area; bif ((!e) == false) then let f := m_H2 a.Area; bif (f == false) then bif (pre_D8 1 4096 [[V.int .i64 a.TileW], [V.int .i64 a.TileH]]) then let g := m_D8 1 4096 [[V.int .i64 a.TileW], [V.int .i64 a.TileH]]; bif ((!g) == false) then let b := (((List.length a.Components) : Nat) : Int); bif (pre_D8 1 4 [[V.int .i64 b]]) then let i := m_D8 1 4 [[V.int .i64 b]]; bif (!i) then k (V.int .i64 12) else let c := (((List.length a.Components) : Nat) : Int); loop_C9_0 a.Components c a (fuel_C9_0 a.Components c 0 a) 0 (fun u => let j := m_E3 a.Area.X1 a.TileW; let m := m_D1 a.Area.X0 a.TileW; let o := IntKind.wrap .i64 (j - m); let p := m_E3 a.Area.Y1 a.TileH; let q := m_D1 a.Area.Y0 a.TileH; let r := IntKind.wrap .i64 (p - q); let s := IntKind.wrap .i64 (o * r); let t := decide (s > 1024); bif t then k (V.int .i64 5) else let d := (((List.length a.Components) : Nat) : Int); loop_C9_2 a.Components d a (fuel_C9_2 a.Components d 0 a) 0 (fun v => k (V.int .i64 0)) k) k else none else k (V.int .i64 12) else none else k (V.int .i64 12) else k (V.int .i64 12)
abbrev av_C9 (a : SHeader) : List V := [(SHeader.v a)]
theorem spec_C9_eq (a : SHeader) (k : V -> Option R) : fnK env_C9 Try.f33 (av_C9 a) k = spec_C9 a k := by kernel_rfl
theorem mk_C9 (h_H1 : G_H1) (h_H2 : G_H2) (h_F4 : G_F4) (h_D8 : G_D8) (h_E3 : G_E3) (h_D1 : G_D1) (h_H9 : G_H9) (h : ∀ (a : SHeader), Real (av_C9 a) -> spec_C9 a some = some (V.int .i64 (m_C9 a))) : G_C9 := goodHook1 fun l hp => by
  unfold hp_C9 at hp
  split at hp
  · rename_i b d f g i j m
    exact fn_ok (fn := Try.f33) (c := bodyOf Try.f33) (E := env_C9) ⟨by kernel_rfl, (goodCons h_H1 (goodCons h_H2 (goodCons h_F4 (goodCons h_D8 (goodCons h_E3 (goodCons h_D1 (goodCons h_H9 goodNil))))))), rfl⟩ rfl (by kernel_rfl) (by kernel_rfl) (by kernel_rfl) (loopsOK_of _ (by have e : loopsOf (bodyOf Try.f33) = [(0, loopAt Try.f33 0), (2, loopAt Try.f33 1)] := (by kernel_rfl); rw [e]; simp only [List.forall_mem_cons, List.not_mem_nil, false_implies, implies_true, and_true]; exact ⟨good_C9_0, good_C9_2⟩)) (fun hr => (spec_C9_eq (SHeader.mk (SRect.mk b d f g) i j m) some).trans (h (SHeader.mk (SRect.mk b d f g) i j m) hr))
  · cases hp
noncomputable def env_C6 : Env R := ⟨Try.prog, callCons 35 c_H2 callNil, fun _ _ _ _ _ => none, Try.f36.results.toList, maskTab 31 [(0, 0x1c), (1, 0x30), (2, 0x10000030), (3, 0x10), (4, 0x10)], maskAt [(2, 3), (4, 26), (6, 28), (8, 30)]⟩
noncomputable def spec_C6 (a b : SRect) (k : V -> Option R) : Option R := let c : Int := (bif (decide (b.X0 > a.X0)) then b.X0 else a.X0); let d : Int := (bif (decide (b.Y0 > a.Y0)) then b.Y0 else a.Y0); let e : Int := (bif (decide (b.X1 < a.X1)) then b.X1 else a.X1); let f : Int := (bif (decide (b.Y1 < a.Y1)) then b.Y1 else a.Y1); let g := m_H2 (SRect.mk c d e f); bif g then k (V.agg [(V.int .i64 0), (V.int .i64 0), (V.int .i64 0), (V.int .i64 0)]) else k (V.agg [V.int .i64 c, V.int .i64 d, V.int .i64 e, V.int .i64 f])
abbrev av_C6 (a b : SRect) : List V := [(SRect.v a), (SRect.v b)]
theorem spec_C6_eq (a b : SRect) (k : V -> Option R) : fnK env_C6 Try.f36 (av_C6 a b) k = spec_C6 a b k := by kernel_rfl
theorem mk_C6 (h_H2 : G_H2) (h : ∀ (a b : SRect), Real (av_C6 a b) -> spec_C6 a b some = some (SRect.v (m_C6 a b))) : G_C6 := goodHook1 fun l hp => by
  unfold hp_C6 at hp
  split at hp
  · rename_i d f g i j m o q
    exact fn_ok (fn := Try.f36) (c := bodyOf Try.f36) (E := env_C6) ⟨by kernel_rfl, (goodCons h_H2 goodNil), rfl⟩ rfl (by kernel_rfl) (by kernel_rfl) (by kernel_rfl) (loopsOK_of _ (by have e : loopsOf (bodyOf Try.f36) = [] := (by kernel_rfl); rw [e]; intro p hp; cases hp)) (fun hr => (spec_C6_eq (SRect.mk d f g i) (SRect.mk j m o q) some).trans (h (SRect.mk d f g i) (SRect.mk j m o q) hr))
  · cases hp
theorem au_C6 (a b : SRect) : spec_C6 a b some = some ((fun (m : SRect) => (SRect.v m)) (m_C6 a b)) := by
  repeat' (first | rfl | refine bif_t (v := (fun (m : SRect) => (SRect.v m))) ?_ ?_)
theorem good_C6_of (h_H2 : G_H2) : G_C6 := mk_C6 h_H2 (fun _ _ _ => au_C6 _ _)
end Go.Vm
