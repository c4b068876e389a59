import Derived.Test.YtjekfokamcfffaaWM
set_option linter.unusedVariables false
set_option linter.unusedSimpArgs false
set_option maxRecDepth 100000
noncomputable section
namespace Go.Vm
open Go.Proofs
variable {R : Type}
noncomputable def env_F6 : Env R := ⟨Try.prog, callCons 19 c_G2 (callCons 21 c_I1 (callCons 31 c_H8 (callCons 32 c_D9 (callCons 37 c_H5 (callCons 43 c_G8 callNil))))), fun _ _ _ _ _ => none, Try.f26.results.toList, maskTab 77 [(0, 0x180003e73800078), (1, 0x180003e73800178), (2, 0x180003e73810178), (3, 0xc0), (4, 0x180004000000068), (5, 0xc0), (6, 0x180000000000268), (7, 0x180200000000268), (8, 0x180000000000268), (9, 0x200000000000268), (10, 0xc0), (11, 0x648), (12, 0x840), (13, 0x4000000000000000840), (14, 0xc0), (15, 0xc0)], maskAt [(2, 5), (4, 9), (6, 11), (8, 15), (10, 35), (12, 38), (14, 42), (16, 46), (18, 51), (20, 59), (22, 62), (24, 67), (26, 78), (28, 81), (30, 84)]⟩
noncomputable def spec_F6 (b : SHeader) (e : SParams) (a : SView) (k : V -> Option R) : Option R := let f := m_I1 b e; bif (f != 0) then k (V.tup [(V.agg [(V.int .i64 0), (V.int .i64 0), (V.int .i64 0), (V.int .i64 0), (V.int .i64 0), (V.int .i64 0), (V.data SComponent.sh [])]), V.int .i64 f]) else let p := decide (a.Layers < 0); let q := decide (a.Layers > 16); let r : Bool := (bif p then true else q); let s := decide (a.Drop < 0); let t : Bool := (bif r then true else s); let u := decide (a.Drop > e.Levels); let v : Bool := (bif t then true else u); bif v then k (V.tup [(V.agg [(V.int .i64 0), (V.int .i64 0), (V.int .i64 0), (V.int .i64 0), (V.int .i64 0), (V.int .i64 0), (V.data SComponent.sh [])]), (V.int .i64 2)]) else let w := !((a.Window.X0 == 0) && ((a.Window.Y0 == 0) && ((a.Window.X1 == 0) && ((a.Window.Y1 == 0) && true)))); bif w then let g := m_D9 b.Area a.Window; let y := m_H5 a.Window; bif ((!y) == false) then let z := m_H8 g; bif z then k (V.tup [(V.agg [(V.int .i64 0), (V.int .i64 0), (V.int .i64 0), (V.int .i64 0), (V.int .i64 0), (V.int .i64 0), (V.data SComponent.sh [])]), (V.int .i64 2)]) else let i := IntKind.wrap .u64 a.Drop; bif (decide (0 <= i)) then let j := IntKind.wrap .i64 (1 * 2 ^ (min (Int.toNat i) 64)); let c := m_G8 g j j; bif (roomOK ((0 : Nat) + (List.length b.Components)) 32) then let A := m_G2 (SHeader.mk c 4096 4096 ([] ++ b.Components)); bif (A != 0) then k (V.tup [(V.agg [(V.int .i64 0), (V.int .i64 0), (V.int .i64 0), (V.int .i64 0), (V.int .i64 0), (V.int .i64 0), (V.data SComponent.sh [])]), (V.int .i64 2)]) else k (V.tup [(V.agg [V.int .i64 c.X0, V.int .i64 c.Y0, V.int .i64 c.X1, V.int .i64 c.Y1, (V.int .i64 4096), (V.int .i64 4096), (V.data SComponent.sh ([] ++ b.Components))]), (V.int .i64 0)]) else none else none else k (V.tup [(V.agg [(V.int .i64 0), (V.int .i64 0), (V.int .i64 0), (V.int .i64 0), (V.int .i64 0), (V.int .i64 0), (V.data SComponent.sh [])]), (V.int .i64 2)]) else let m := IntKind.wrap .u64 a.Drop; bif (decide (0 <= m)) then let o := IntKind.wrap .i64 (1 * 2 ^ (min (Int.toNat m) 64)); let d := m_G8 b.Area o o; bif (roomOK ((0 : Nat) + (List.length b.Components)) 32) then let B := m_G2 (SHeader.mk d 4096 4096 ([] ++ b.Components)); bif (B != 0) then k (V.tup [(V.agg [(V.int .i64 0), (V.int .i64 0), (V.int .i64 0), (V.int .i64 0), (V.int .i64 0), (V.int .i64 0), (V.data SComponent.sh [])]), (V.int .i64 2)]) else k (V.tup [(V.agg [V.int .i64 d.X0, V.int .i64 d.Y0, V.int .i64 d.X1, V.int .i64 d.Y1, (V.int .i64 4096), (V.int .i64 4096), (V.data SComponent.sh ([] ++ b.Components))]), (V.int .i64 0)]) else none else none
abbrev av_F6 (a : SHeader) (b : SParams) (c : SView) : List V := [(SHeader.v a), (SParams.v b), (SView.v c)]
theorem spec_F6_eq (a : SHeader) (b : SParams) (c : SView) (k : V -> Option R) : fnK env_F6 Try.f26 (av_F6 a b c) k = spec_F6 a b c k := by kernel_rfl
theorem mk_F6 (h_G2 : G_G2) (h_I1 : G_I1) (h_H8 : G_H8) (h_D9 : G_D9) (h_H5 : G_H5) (h_G8 : G_G8) (h : ∀ (a : SHeader) (b : SParams) (d : SView), pre_F6 a b d = true -> Real (av_F6 a b d) -> spec_F6 a b d some = some (V.tup [(SHeader.v (m_F6 a b d).1), (V.int .i64 (m_F6 a b d).2)])) : G_F6 := goodHook1 fun l hp => by
  unfold hp_F6 at hp
  split at hp
  · rename_i f g i j m o q r s t u v w y z A B D F H I J K L M N O Q S U W X
    exact fn_ok (fn := Try.f26) (c := bodyOf Try.f26) (E := env_F6) ⟨by kernel_rfl, (goodCons h_G2 (goodCons h_I1 (goodCons h_H8 (goodCons h_D9 (goodCons h_H5 (goodCons h_G8 goodNil)))))), rfl⟩ rfl (by kernel_rfl) (by kernel_rfl) (by kernel_rfl) (loopsOK_of _ (by have e : loopsOf (bodyOf Try.f26) = [] := (by kernel_rfl); rw [e]; intro p hp; cases hp)) (fun hr => (spec_F6_eq (SHeader.mk (SRect.mk f g i j) m o q) (SParams.mk r s t u v w y z (SMode.mk A B D F H) I J K L M N) (SView.mk O Q (SRect.mk S U W X)) some).trans (h (SHeader.mk (SRect.mk f g i j) m o q) (SParams.mk r s t u v w y z (SMode.mk A B D F H) I J K L M N) (SView.mk O Q (SRect.mk S U W X)) hp hr))
  · cases hp
theorem au_F6 (a : SHeader) (b : SParams) (c : SView) : pre_F6 a b c = true -> spec_F6 a b c some = some ((fun (m : SHeader × Int) => (V.tup [(SHeader.v m.1), V.int .i64 m.2])) (m_F6 a b c)) := by
  repeat' (first | exact fun _ => rfl | exact fun h => absurd h (by decide) | refine bif_p (v := (fun (m : SHeader × Int) => (V.tup [(SHeader.v m.1), V.int .i64 m.2]))) ?_ ?_)
theorem good_F6_of (h_G2 : G_G2) (h_I1 : G_I1) (h_H8 : G_H8) (h_D9 : G_D9) (h_H5 : G_H5) (h_G8 : G_G8) : G_F6 := mk_F6 h_G2 h_I1 h_H8 h_D9 h_H5 h_G8 (fun _ _ _ hp _ => au_F6 _ _ _ hp)
noncomputable def env_J0 : Env R := ⟨Try.prog, callNil, fun _ _ _ _ _ => none, Try.f59.results.toList, maskTab 13 [(0, 0xcc1), (1, 0x4)], maskAt [(2, 1)]⟩
noncomputable def spec_J0 (a : Int) (k : V -> Option R) : Option R := let b : Bool := (bif (a == 1) then true else (a == 2)); let c : Bool := (bif b then true else (a == 3)); k (V.bool c)
abbrev av_J0 (a : Int) : List V := [V.int .i64 a]
theorem spec_J0_eq (a : Int) (k : V -> Option R) : fnK env_J0 Try.f59 (av_J0 a) k = spec_J0 a k := by kernel_rfl
theorem mk_J0 (h : ∀ (a : Int), Real (av_J0 a) -> spec_J0 a some = some (V.bool (m_J0 a))) : G_J0 := goodHook1 fun l hp => by
  unfold hp_J0 at hp
  split at hp
  · rename_i b
    exact fn_ok (fn := Try.f59) (c := bodyOf Try.f59) (E := env_J0) ⟨by kernel_rfl, goodNil, rfl⟩ rfl (by kernel_rfl) (by kernel_rfl) (by kernel_rfl) (loopsOK_of _ (by have e : loopsOf (bodyOf Try.f59) = [] := (by kernel_rfl); rw [e]; intro p hp; cases hp)) (fun hr => (spec_J0_eq b some).trans (h b hr))
  · cases hp
theorem au_J0 (a : Int) : spec_J0 a some = some ((fun (m : Bool) => (V.bool m)) (m_J0 a)) := by
  repeat' (first | rfl | refine bif_t (v := (fun (m : Bool) => (V.bool m))) ?_ ?_)
theorem good_J0_of : G_J0 := mk_J0 (fun _ _ => au_J0 _)
noncomputable def env_G3 : Env R := ⟨Try.prog, callNil, fun _ _ _ _ _ => none, Try.f61.results.toList, maskTab 9 [(0, 0x1), (1, 0x8), (2, 0x18), (3, 0x18), (4, 0x4), (5, 0x80), (6, 0x4), (7, 0x4)], maskAt [(2, 1), (4, 2), (6, 4), (8, 6), (10, 7), (12, 9), (14, 10)]⟩
noncomputable def spec_G3 (a : Int) (k : V -> Option R) : Option R := bif (a == 1) then bif (a == 1) then k (V.int .i64 2) else bif (a == 3) then k (V.int .i64 4) else k (V.int .i64 0) else bif (a == 2) then k (V.int .i64 2) else bif (a == 3) then k (V.int .i64 4) else k (V.int .i64 0)
abbrev av_G3 (a : Int) : List V := [V.int .i64 a]
theorem spec_G3_eq (a : Int) (k : V -> Option R) : fnK env_G3 Try.f61 (av_G3 a) k = spec_G3 a k := by kernel_rfl
theorem mk_G3 (h : ∀ (a : Int), Real (av_G3 a) -> spec_G3 a some = some (V.int .i64 (m_G3 a))) : G_G3 := goodHook1 fun l hp => by
  unfold hp_G3 at hp
  split at hp
  · rename_i b
    exact fn_ok (fn := Try.f61) (c := bodyOf Try.f61) (E := env_G3) ⟨by kernel_rfl, goodNil, rfl⟩ rfl (by kernel_rfl) (by kernel_rfl) (by kernel_rfl) (loopsOK_of _ (by have e : loopsOf (bodyOf Try.f61) = [] := (by kernel_rfl); rw [e]; intro p hp; cases hp)) (fun hr => (spec_G3_eq b some).trans (h b hr))
  · cases hp
theorem au_G3 (a : Int) : spec_G3 a some = some ((fun (m : Int) => (V.int .i64 m)) (m_G3 a)) := by
  repeat' (first | rfl | refine bif_t (v := (fun (m : Int) => (V.int .i64 m))) ?_ ?_)
theorem good_G3_of : G_G3 := mk_G3 (fun _ _ => au_G3 _)
noncomputable def fuel_J5_0 (b c a : Int) (d : SRect) (e : Rows) (f : SRect) : Nat := let g := decide (a > 0); Int.toNat (a - 0) + 1
noncomputable def step_J5_0 (o c : Int) (p : SRect) (a : Int) (d : Rows) (b : SRect) (again : Int -> Rows -> SRect -> Option R) (kn : Int -> Rows -> SRect -> Option R) : Option R := let q := decide (a > 0); bif q then let r := IntKind.wrap .i64 (b.X0 - c); let s := IntKind.wrap .i64 (b.Y0 - c); let t := IntKind.wrap .i64 (b.X1 + c); let u := IntKind.wrap .i64 (b.Y1 + c); let v := m_C1 p o a; let w := m_D9 (SRect.mk r s t u) v; let e := m_H7 w; let y := IntKind.wrap .i64 (3 * a); let f := IntKind.wrap .i64 (y - 2); let z := IntKind.wrap .i64 (3 * a); let g := IntKind.wrap .i64 (z - 1); let i := IntKind.wrap .i64 (3 * a); bif (inR f (List.length d)) then let j := List.set d (Int.toNat f) (setCells (List.getD d (Int.toNat f) []) 0 (SRect.row e.e1)); bif (inR g (List.length j)) then let m := List.set j (Int.toNat g) (setCells (List.getD j (Int.toNat g) []) 0 (SRect.row e.e2)); bif (inR i (List.length m)) then let A := List.set m (Int.toNat i) (setCells (List.getD m (Int.toNat i) []) 0 (SRect.row e.e3)); let B := IntKind.wrap .i64 (a - 1); again B A e.e0 else none else none else none else kn a d b
noncomputable def loop_J5_0 (a b : Int) (c : SRect) : Nat -> Int -> Rows -> SRect -> (Int -> Rows -> SRect -> Option R) -> Option R
  | 0, _, _, _, _ => none
  | n + 1, d, e, f, kn => step_J5_0 a b c d e f (fun g i j => loop_J5_0 a b c n g i j kn) kn
noncomputable def shape_J5_0 : ST := ⟨.undef :: .int .i64 :: unds 3 (.ptr 0 0 0 :: unds 5 (.vs 28 :: .ptr 36 0 0 :: .int .i64 :: .int .i64 :: unds 93 [])), [(0, .var SRect.sh false SRect.ts), (28, .vec SRect.sh false), (36, .var SRect.sh false SRect.ts)], 47⟩
noncomputable def st_J5_0 (c d : Int) (a : SRect) (e : Int) (f : Rows) (b : SRect) : St := shape_J5_0.put [.i c, .i d, .i e, .i a.X0, .i a.Y0, .i a.X1, .i a.Y1, .r f, .i b.X0, .i b.Y0, .i b.X1, .i b.Y1]
noncomputable def hook_J5_0 : LoopG R := fun l kn _ _ => match l with
  | .i a :: .i b :: .i g :: .i c :: .i d :: .i e :: .i f :: .r i :: .i j :: .i m :: .i o :: .i p :: [] => loop_J5_0 a b (SRect.mk c d e f) (fuel_J5_0 a b g (SRect.mk c d e f) i (SRect.mk j m o p)) g i (SRect.mk j m o p) (fun q r s => kn (st_J5_0 a b (SRect.mk c d e f) q r s))
  | _ => none
noncomputable def env_J5 : Env R := ⟨Try.prog, callCons 31 c_H8 (callCons 32 c_D9 (callCons 37 c_H5 (callCons 58 c_J1 (callCons 59 c_J0 (callCons 60 c_C1 (callCons 61 c_G3 (callCons 62 c_H7 callNil))))))), fun id => bif Nat.beq id 0 then loopAlt shape_J5_0 hook_J5_0 loopNil else (fun _ _ _ _ _ => none) id, Try.f27.results.toList, maskTab 108 [(0, 0x39cce00136), (1, 0x4000000136), (2, 0x400), (3, 0x936), (4, 0x1836), (5, 0x2000000001836), (6, 0x400), (7, 0x3826), (8, 0x7822), (9, 0x80000000007822), (10, 0x7822), (11, 0xf822), (12, 0x17822), (13, 0x17822), (14, 0x7822), (15, 0x800), (16, 0x400)], maskAt [(1, 47), (2, 3), (4, 25), (6, 26), (8, 30), (10, 38), (12, 40), (14, 42), (16, 45), (18, 51), (20, 107), (22, 53), (24, 77), (26, 81), (28, 104), (30, 110), (32, 114)]⟩
theorem step_J5_0_eq (a b : Int) (c : SRect) (g : Int) (i : Rows) (j : SRect) (kn : St -> Option R) (kx : Nat -> St -> Option R) (kr : V -> Option R) (n : Nat) (m : Int) (o : Rows) (p : SRect) :
    loopN env_J5 0 (loopAt Try.f27 0) (st_J5_0 a b c g i j) kn kx kr (n + 1) (st_J5_0 a b c m o p) =
    step_J5_0 a b c m o p (fun d e f => loopN env_J5 0 (loopAt Try.f27 0) (st_J5_0 a b c g i j) kn kx kr n (st_J5_0 a b c d e f)) (fun d e f => kn (st_J5_0 a b c d e f)) := by kernel_rfl
theorem loop_J5_0_eq (a b : Int) (c : SRect) (m : Int) (o : Rows) (p : SRect) (kn : St -> Option R) (kx : Nat -> St -> Option R) (kr : V -> Option R) : ∀ (n : Nat) (d : Int) (e : Rows) (f : SRect),
    loop_J5_0 a b c n d e f (fun g i j => kn (st_J5_0 a b c g i j)) = loopN env_J5 0 (loopAt Try.f27 0) (st_J5_0 a b c m o p) kn kx kr n (st_J5_0 a b c d e f)
  | 0, _, _, _ => rfl
  | n + 1, d, e, f => by
    rw [step_J5_0_eq, loop_J5_0]
    congr 1
    funext g i j
    exact loop_J5_0_eq a b c m o p kn kx kr n g i j
theorem goodl_J5_0 {rest} (h : GoodL (R := R) env_J5 0 (loopAt Try.f27 0) rest) : GoodL (R := R) env_J5 0 (loopAt Try.f27 0) (loopAlt shape_J5_0 hook_J5_0 rest) := by
  refine goodL_alt (fun l kn kx kr r h => ?_) h
  unfold hook_J5_0 at h
  split at h
  · rename_i g i a j m o p b c d e f
    exact ⟨_, (loop_J5_0_eq g i (SRect.mk j m o p) a b (SRect.mk c d e f) kn kx kr _ a b (SRect.mk c d e f)).symm.trans h⟩
  · cases h
theorem good_J5_0 : GoodLoop (R := R) env_J5 0 (loopAt Try.f27 0) := goodL_loop (g := loopAlt shape_J5_0 hook_J5_0 loopNil) (fun _ _ _ _ => rfl) (goodl_J5_0 goodL_nil)
noncomputable def spec_J5 (d : SRect) (a c : Int) (m : SRect) (i : Int) (k : V -> Option R) : Option R := let o := m_H5 d; bif ((!o) == false) then let p := m_J1 a; let q := decide (c < 0); let r : Bool := (bif (p == 0) then true else q); let s : Bool := (bif r then true else (decide (c > a))); bif (s == false) then let t := m_J0 i; bif (!t) then k (V.data SRect.sh []) else let b := m_J1 a; bif (((((decide (0 <= b)) && (decide (b <= b))) && (decide ((b * 32) <= 140737488355328))) && (decide (b <= 140737488355328))) && true) then let e := List.replicate (Int.toNat b) [(V.int .i64 0), (V.int .i64 0), (V.int .i64 0), (V.int .i64 0)]; let u := m_C1 d a c; let f := m_D9 m u; let v := m_H8 f; bif v then k (V.data SRect.sh e) else let j := m_G3 i; loop_J5_0 a j d (fuel_J5_0 a j c d e f) c e f (fun z g w => bif (inR 0 (List.length g)) then let y := List.set g (0 : Nat) (setCells (List.getD g (0 : Nat) []) 0 (SRect.row w)); k (V.data SRect.sh y) else none) else none else k (V.data SRect.sh []) else k (V.data SRect.sh [])
abbrev av_J5 (a : SRect) (b c : Int) (d : SRect) (e : Int) : List V := [(SRect.v a), V.int .i64 b, V.int .i64 c, (SRect.v d), V.int .i64 e]
theorem spec_J5_eq (a : SRect) (b c : Int) (d : SRect) (e : Int) (k : V -> Option R) : fnK env_J5 Try.f27 (av_J5 a b c d e) k = spec_J5 a b c d e k := by kernel_rfl
theorem mk_J5 (h_H8 : G_H8) (h_D9 : G_D9) (h_H5 : G_H5) (h_J1 : G_J1) (h_J0 : G_J0) (h_C1 : G_C1) (h_G3 : G_G3) (h_H7 : G_H7) (h : ∀ (a : SRect) (b d : Int) (f : SRect) (g : Int), Real (av_J5 a b d f g) -> spec_J5 a b d f g some = some (V.data SRect.sh (m_J5 a b d f g))) : G_J5 := goodHook1 fun l hp => by
  unfold hp_J5 at hp
  split at hp
  · rename_i i j m o p q r s t u v
    exact fn_ok (fn := Try.f27) (c := bodyOf Try.f27) (E := env_J5) ⟨by kernel_rfl, (goodCons h_H8 (goodCons h_D9 (goodCons h_H5 (goodCons h_J1 (goodCons h_J0 (goodCons h_C1 (goodCons h_G3 (goodCons h_H7 goodNil)))))))), rfl⟩ rfl (by kernel_rfl) (by kernel_rfl) (by kernel_rfl) (loopsOK_of _ (by have e : loopsOf (bodyOf Try.f27) = [(0, loopAt Try.f27 0)] := (by kernel_rfl); rw [e]; simp only [List.forall_mem_cons, List.not_mem_nil, false_implies, implies_true, and_true]; exact good_J5_0)) (fun hr => (spec_J5_eq (SRect.mk i j m o) p q (SRect.mk r s t u) v some).trans (h (SRect.mk i j m o) p q (SRect.mk r s t u) v hr))
  · cases hp
noncomputable def env_D7 : Env R := ⟨Try.prog, callCons 20 c_I2 (callCons 43 c_G8 callNil), fun _ _ _ _ _ => none, Try.f28.results.toList, maskTab 47 [(0, 0xf99e04e), (1, 0xf99e0ce), (2, 0x100000ce), (3, 0x40), (4, 0x40)], maskAt [(2, 2), (4, 5), (6, 24), (8, 26)]⟩
noncomputable def spec_D7 (a : SHeader) (c b : Int) (k : V -> Option R) : Option R := let d := m_I2 a; let e := decide (c < 0); bif (e == false) then let f := (((List.length d) : Nat) : Int); let g := decide (b < 0); let i : Bool := (bif (decide (c >= f)) then true else g); bif (i == false) then let j := (((List.length a.Components) : Nat) : Int); bif (decide (b >= j)) then k (V.agg [(V.int .i64 0), (V.int .i64 0), (V.int .i64 0), (V.int .i64 0)]) else bif (inR c (List.length d)) then let m := List.getD d (Int.toNat c) []; let o := SRect.of m; bif (inR b (List.length a.Components)) then let p := List.getD a.Components (Int.toNat b) []; let q := V.toInt (List.getD p 2 V.undef); bif (inR b (List.length a.Components)) then let r := List.getD a.Components (Int.toNat b) []; let s := V.toInt (List.getD r 3 V.undef); let t := m_G8 o q s; k (SRect.v t) else none else none else none else k (V.agg [(V.int .i64 0), (V.int .i64 0), (V.int .i64 0), (V.int .i64 0)]) else k (V.agg [(V.int .i64 0), (V.int .i64 0), (V.int .i64 0), (V.int .i64 0)])
abbrev av_D7 (a : SHeader) (b c : Int) : List V := [(SHeader.v a), V.int .i64 b, V.int .i64 c]
theorem spec_D7_eq (a : SHeader) (b c : Int) (k : V -> Option R) : fnK env_D7 Try.f28 (av_D7 a b c) k = spec_D7 a b c k := by kernel_rfl
theorem mk_D7 (h_I2 : G_I2) (h_G8 : G_G8) (h : ∀ (a : SHeader) (b d : Int), Real (av_D7 a b d) -> spec_D7 a b d some = some (SRect.v (m_D7 a b d))) : G_D7 := goodHook1 fun l hp => by
  unfold hp_D7 at hp
  split at hp
  · rename_i f g i j m o q r s
    exact fn_ok (fn := Try.f28) (c := bodyOf Try.f28) (E := env_D7) ⟨by kernel_rfl, (goodCons h_I2 (goodCons h_G8 goodNil)), rfl⟩ rfl (by kernel_rfl) (by kernel_rfl) (by kernel_rfl) (loopsOK_of _ (by have e : loopsOf (bodyOf Try.f28) = [] := (by kernel_rfl); rw [e]; intro p hp; cases hp)) (fun hr => (spec_D7_eq (SHeader.mk (SRect.mk f g i j) m o q) r s some).trans (h (SHeader.mk (SRect.mk f g i j) m o q) r s hr))
  · cases hp
theorem au_D7 (a : SHeader) (b c : Int) : pre_D7 a b c = true -> spec_D7 a b c some = some ((fun (m : SRect) => (SRect.v m)) (m_D7 a b c)) := by
  repeat' (first | exact fun _ => rfl | exact fun h => absurd h (by decide) | refine bif_p (v := (fun (m : SRect) => (SRect.v m))) ?_ ?_)
theorem good_D7_of (h_I2 : G_I2) (h_G8 : G_G8) : G_D7 := mk_D7 h_I2 h_G8 (fun _ _ _ _ => au_D7 _ _ _ (pt_D7 _ _ _))
noncomputable def env_G6 : Env R := ⟨Try.prog, callCons 20 c_I2 (callCons 32 c_D9 (callCons 43 c_G8 callNil)), fun _ _ _ _ _ => none, Try.f29.results.toList, maskTab 42 [(0, 0x196), (1, 0x394), (2, 0x80394), (3, 0x394), (4, 0x780), (5, 0x100)], maskAt [(2, 3), (4, 10), (6, 14), (8, 19), (10, 26)]⟩
noncomputable def spec_G6 (b : SHeader) (d c : Int) (a : SView) (k : V -> Option R) : Option R := let e := m_I2 b; bif (inR d (List.length e)) then let j := List.getD e (Int.toNat d) []; let f := SRect.of j; let m := !((a.Window.X0 == 0) && ((a.Window.Y0 == 0) && ((a.Window.X1 == 0) && ((a.Window.Y1 == 0) && true)))); bif m then let o := m_D9 f a.Window; bif (inR c (List.length b.Components)) then let p := List.getD b.Components (Int.toNat c) []; let g := SComponent.of p; let q := m_G8 o g.DX g.DY; bif (decide (0 <= a.Drop)) then let r := IntKind.wrap .i64 (1 * 2 ^ (min (Int.toNat a.Drop) 64)); bif (decide (0 <= a.Drop)) then let s := IntKind.wrap .i64 (1 * 2 ^ (min (Int.toNat a.Drop) 64)); let t := m_G8 q r s; k (SRect.v t) else none else none else none else bif (inR c (List.length b.Components)) then let u := List.getD b.Components (Int.toNat c) []; let i := SComponent.of u; let v := m_G8 f i.DX i.DY; bif (decide (0 <= a.Drop)) then let w := IntKind.wrap .i64 (1 * 2 ^ (min (Int.toNat a.Drop) 64)); bif (decide (0 <= a.Drop)) then let y := IntKind.wrap .i64 (1 * 2 ^ (min (Int.toNat a.Drop) 64)); let z := m_G8 v w y; k (SRect.v z) else none else none else none else none
abbrev av_G6 (a : SHeader) (b c : Int) (d : SView) : List V := [(SHeader.v a), V.int .i64 b, V.int .i64 c, (SView.v d)]
theorem spec_G6_eq (a : SHeader) (b c : Int) (d : SView) (k : V -> Option R) : fnK env_G6 Try.f29 (av_G6 a b c d) k = spec_G6 a b c d k := by kernel_rfl
theorem mk_G6 (h_I2 : G_I2) (h_D9 : G_D9) (h_G8 : G_G8) (h : ∀ (a : SHeader) (b d : Int) (f : SView), pre_G6 a b d f = true -> Real (av_G6 a b d f) -> spec_G6 a b d f some = some (SRect.v (m_G6 a b d f))) : G_G6 := goodHook1 fun l hp => by
  unfold hp_G6 at hp
  split at hp
  · rename_i g i j m o q r s t u v w y z A
    exact fn_ok (fn := Try.f29) (c := bodyOf Try.f29) (E := env_G6) ⟨by kernel_rfl, (goodCons h_I2 (goodCons h_D9 (goodCons h_G8 goodNil))), rfl⟩ rfl (by kernel_rfl) (by kernel_rfl) (by kernel_rfl) (loopsOK_of _ (by have e : loopsOf (bodyOf Try.f29) = [] := (by kernel_rfl); rw [e]; intro p hp; cases hp)) (fun hr => (spec_G6_eq (SHeader.mk (SRect.mk g i j m) o q r) s t (SView.mk u v (SRect.mk w y z A)) some).trans (h (SHeader.mk (SRect.mk g i j m) o q r) s t (SView.mk u v (SRect.mk w y z A)) hp hr))
  · cases hp
theorem au_G6 (a : SHeader) (b c : Int) (d : SView) : pre_G6 a b c d = true -> spec_G6 a b c d some = some ((fun (m : SRect) => (SRect.v m)) (m_G6 a b c d)) := by
  repeat' (first | exact fun _ => rfl | exact fun h => absurd h (by decide) | refine bif_p (v := (fun (m : SRect) => (SRect.v m))) ?_ ?_)
theorem good_G6_of (h_I2 : G_I2) (h_D9 : G_D9) (h_G8 : G_G8) : G_G6 := mk_G6 h_I2 h_D9 h_G8 (fun _ _ _ _ hp _ => au_G6 _ _ _ _ hp)
end Go.Vm
