import Derived.Test.YtjekfokamcfffaaWM
set_option linter.unusedVariables false
set_option linter.unusedSimpArgs false
set_option maxRecDepth 100000
noncomputable section
namespace Go.Vm
open Go.Proofs
variable {R : Type}
noncomputable def env_D5 : Env R := ⟨Try.prog, callCons 31 c_H8 (callCons 37 c_H5 (callCons 75 c_F5 (callCons 76 c_E4 callNil))), fun _ _ _ _ _ => none, Try.f90.results.toList, maskTab 63 [(0, 0xccccc00e), (1, 0x10000000e), (2, 0xc0), (3, 0x308), (4, 0x248), (5, 0xc0), (6, 0x10000000000000c0), (7, 0xc0), (8, 0xc0)], maskAt [(2, 3), (4, 26), (6, 28), (8, 36), (10, 46), (12, 56), (14, 60), (16, 62)]⟩
noncomputable def spec_D5 (a : SRect) (b c : Int) (k : V -> Option R) : Option R := let i := m_H5 a; bif ((!i) == false) then let j := m_H8 a; let m := decide (b < 0); let o : Bool := (bif j then true else m); let p := decide (b > 12); let q : Bool := (bif o then true else p); let r := decide (c < 0); let s : Bool := (bif q then true else r); let t := decide (c > 12); let u : Bool := (bif s then true else t); bif u then k (V.tup [(V.int .i64 0), (V.int .i64 0)]) else bif (decide (0 <= (IntKind.wrap .u64 b))) then let d := IntKind.wrap .i64 (1 * 2 ^ (min (Int.toNat (IntKind.wrap .u64 b)) 64)); bif (decide (0 <= (IntKind.wrap .u64 c))) then let e := IntKind.wrap .i64 (1 * 2 ^ (min (Int.toNat (IntKind.wrap .u64 c)) 64)); let v := m_F5 a.X1 d; let w := m_E4 a.X0 d; let f := IntKind.wrap .i64 (v - w); let y := m_F5 a.Y1 e; let z := m_E4 a.Y0 e; let g := IntKind.wrap .i64 (y - z); let A := IntKind.wrap .i64 (f * g); let B := decide (A > 65536); bif B then k (V.tup [(V.int .i64 0), (V.int .i64 0)]) else k (V.tup [V.int .i64 f, V.int .i64 g]) else none else none else k (V.tup [(V.int .i64 0), (V.int .i64 0)])
abbrev av_D5 (a : SRect) (b c : Int) : List V := [(SRect.v a), V.int .i64 b, V.int .i64 c]
theorem spec_D5_eq (a : SRect) (b c : Int) (k : V -> Option R) : fnK env_D5 Try.f90 (av_D5 a b c) k = spec_D5 a b c k := by kernel_rfl
theorem mk_D5 (h_H8 : G_H8) (h_H5 : G_H5) (h_F5 : G_F5) (h_E4 : G_E4) (h : ∀ (a : SRect) (b d : Int), Real (av_D5 a b d) -> spec_D5 a b d some = some (V.tup [(V.int .i64 (m_D5 a b d).1), (V.int .i64 (m_D5 a b d).2)])) : G_D5 := goodHook1 fun l hp => by
  unfold hp_D5 at hp
  split at hp
  · rename_i f g i j m o
    exact fn_ok (fn := Try.f90) (c := bodyOf Try.f90) (E := env_D5) ⟨by kernel_rfl, (goodCons h_H8 (goodCons h_H5 (goodCons h_F5 (goodCons h_E4 goodNil)))), rfl⟩ rfl (by kernel_rfl) (by kernel_rfl) (by kernel_rfl) (loopsOK_of _ (by have e : loopsOf (bodyOf Try.f90) = [] := (by kernel_rfl); rw [e]; intro p hp; cases hp)) (fun hr => (spec_D5_eq (SRect.mk f g i j) m o some).trans (h (SRect.mk f g i j) m o hr))
  · cases hp
theorem au_D5 (a : SRect) (b c : Int) : pre_D5 a b c = true -> spec_D5 a b c some = some ((fun (m : Int × Int) => (V.tup [V.int .i64 m.1, V.int .i64 m.2])) (m_D5 a b c)) := by
  repeat' (first | exact fun _ => rfl | exact fun h => absurd h (by decide) | refine bif_p (v := (fun (m : Int × Int) => (V.tup [V.int .i64 m.1, V.int .i64 m.2]))) ?_ ?_)
theorem good_D5_of (h_H8 : G_H8) (h_H5 : G_H5) (h_F5 : G_F5) (h_E4 : G_E4) : G_D5 := mk_D5 h_H8 h_H5 h_F5 h_E4 (fun _ _ _ _ => au_D5 _ _ _ (pt_D5 _ _ _))
noncomputable def env_C3 : Env R := ⟨Try.prog, callCons 60 c_C1 (callCons 77 c_E8 (callCons 90 c_D5 callNil)), fun _ _ _ _ _ => none, Try.f63.results.toList, maskTab 30 [(0, 0x5c), (1, 0x54), (2, 0x240), (3, 0x1c0), (4, 0x1c0)], maskAt [(2, 5), (4, 11), (6, 16), (8, 27)]⟩
noncomputable def spec_C3 (f : SRect) (a : SParams) (b : Int) (k : V -> Option R) : Option R := let c := m_C1 f a.Levels b; let d := m_E8 a b; let e := m_D5 c d.X d.Y; k (V.tup [(SRect.v c), V.int .i64 e.1, V.int .i64 e.2])
abbrev av_C3 (a : SRect) (b : SParams) (c : Int) : List V := [(SRect.v a), (SParams.v b), V.int .i64 c]
theorem spec_C3_eq (a : SRect) (b : SParams) (c : Int) (k : V -> Option R) : fnK env_C3 Try.f63 (av_C3 a b c) k = spec_C3 a b c k := by kernel_rfl
theorem mk_C3 (h_C1 : G_C1) (h_E8 : G_E8) (h_D5 : G_D5) (h : ∀ (a : SRect) (b : SParams) (d : Int), Real (av_C3 a b d) -> spec_C3 a b d some = some (V.tup [(SRect.v (m_C3 a b d).1), (V.int .i64 (m_C3 a b d).2.1), (V.int .i64 (m_C3 a b d).2.2)])) : G_C3 := goodHook1 fun l hp => by
  unfold hp_C3 at hp
  split at hp
  · rename_i f g i j m o q r s t u v w y z A B D F H I J K L
    exact fn_ok (fn := Try.f63) (c := bodyOf Try.f63) (E := env_C3) ⟨by kernel_rfl, (goodCons h_C1 (goodCons h_E8 (goodCons h_D5 goodNil))), rfl⟩ rfl (by kernel_rfl) (by kernel_rfl) (by kernel_rfl) (loopsOK_of _ (by have e : loopsOf (bodyOf Try.f63) = [] := (by kernel_rfl); rw [e]; intro p hp; cases hp)) (fun hr => (spec_C3_eq (SRect.mk f g i j) (SParams.mk m o q r s t u v (SMode.mk w y z A B) D F H I J K) L some).trans (h (SRect.mk f g i j) (SParams.mk m o q r s t u v (SMode.mk w y z A B) D F H I J K) L hr))
  · cases hp
theorem au_C3 (a : SRect) (b : SParams) (c : Int) : spec_C3 a b c some = some ((fun (m : SRect × Int × Int) => (V.tup [(SRect.v m.1), V.int .i64 m.2.1, V.int .i64 m.2.2])) (m_C3 a b c)) := by
  repeat' (first | rfl | refine bif_t (v := (fun (m : SRect × Int × Int) => (V.tup [(SRect.v m.1), V.int .i64 m.2.1, V.int .i64 m.2.2]))) ?_ ?_)
theorem good_C3_of (h_C1 : G_C1) (h_E8 : G_E8) (h_D5 : G_D5) : G_C3 := mk_C3 h_C1 h_E8 h_D5 (fun _ _ _ _ => au_C3 _ _ _)
noncomputable def env_F2 : Env R := ⟨Try.prog, callCons 58 c_J1 callNil, fun _ _ _ _ _ => none, Try.f91.results.toList, maskTab 29 [(0, 0xe603), (1, 0x10002), (2, 0x10), (3, 0x40002), (4, 0x10), (5, 0x10)], maskAt [(2, 1), (4, 13), (6, 14), (8, 16), (10, 18)]⟩
noncomputable def spec_F2 (b a : Int) (k : V -> Option R) : Option R := let c := m_J1 b; let d := decide (a < 0); let e : Bool := (bif (c == 0) then true else d); let f : Bool := (bif e then true else (decide (a > b))); bif f then k (V.data [.int .i64] []) else bif (a == 0) then k (V.data [.int .i64] [[(V.int .i64 0)]]) else let g := IntKind.wrap .i64 (3 * a); let i := IntKind.wrap .i64 (g - 2); let j := IntKind.wrap .i64 (3 * a); let m := IntKind.wrap .i64 (j - 1); let o := IntKind.wrap .i64 (3 * a); k (V.data [.int .i64] [[V.int .i64 i], [V.int .i64 m], [V.int .i64 o]])
abbrev av_F2 (a b : Int) : List V := [V.int .i64 a, V.int .i64 b]
theorem spec_F2_eq (a b : Int) (k : V -> Option R) : fnK env_F2 Try.f91 (av_F2 a b) k = spec_F2 a b k := by kernel_rfl
theorem mk_F2 (h_J1 : G_J1) (h : ∀ (a b : Int), Real (av_F2 a b) -> spec_F2 a b some = some (V.data [.int .i64] (m_F2 a b))) : G_F2 := goodHook1 fun l hp => by
  unfold hp_F2 at hp
  split at hp
  · rename_i d f
    exact fn_ok (fn := Try.f91) (c := bodyOf Try.f91) (E := env_F2) ⟨by kernel_rfl, (goodCons h_J1 goodNil), rfl⟩ rfl (by kernel_rfl) (by kernel_rfl) (by kernel_rfl) (loopsOK_of _ (by have e : loopsOf (bodyOf Try.f91) = [] := (by kernel_rfl); rw [e]; intro p hp; cases hp)) (fun hr => (spec_F2_eq d f some).trans (h d f hr))
  · cases hp
theorem au_F2 (a b : Int) : spec_F2 a b some = some ((fun (m : Rows) => (V.data [.int .i64] m)) (m_F2 a b)) := by
  repeat' (first | rfl | refine bif_t (v := (fun (m : Rows) => (V.data [.int .i64] m))) ?_ ?_)
theorem good_F2_of (h_J1 : G_J1) : G_F2 := mk_F2 h_J1 (fun _ _ _ => au_F2 _ _)
noncomputable def env_I3 : Env R := ⟨Try.prog, callCons 76 c_E4 (callCons 90 c_D5 callNil), fun _ _ _ _ _ => none, Try.f106.results.toList, maskTab 49 [(0, 0xf80001e), (1, 0xf80181e), (2, 0x1000081e), (3, 0x700), (4, 0x700)], maskAt [(2, 4), (4, 13), (6, 22), (8, 25)]⟩
noncomputable def spec_I3 (c : SRect) (d e b : Int) (k : V -> Option R) : Option R := let a := m_D5 c d e; let f := decide (b < 0); let g := IntKind.wrap .i64 (a.1 * a.2); let i : Bool := (bif f then true else (decide (b >= g))); bif i then k (V.tup [(V.int .i64 0), (V.int .i64 0), V.bool false]) else bif (decide (0 <= (IntKind.wrap .u64 d))) then let j := IntKind.wrap .i64 (1 * 2 ^ (min (Int.toNat (IntKind.wrap .u64 d)) 64)); let m := m_E4 c.X0 j; bif (a.1 != 0) then let o := IntKind.wrap .i64 (m + (Int.tmod b a.1)); bif (decide (0 <= (IntKind.wrap .u64 e))) then let p := IntKind.wrap .i64 (1 * 2 ^ (min (Int.toNat (IntKind.wrap .u64 e)) 64)); let q := m_E4 c.Y0 p; bif (a.1 != 0) then let r := IntKind.wrap .i64 (Int.tdiv b a.1); let s := IntKind.wrap .i64 (q + r); k (V.tup [V.int .i64 o, V.int .i64 s, V.bool true]) else none else none else none else none
abbrev av_I3 (a : SRect) (b c d : Int) : List V := [(SRect.v a), V.int .i64 b, V.int .i64 c, V.int .i64 d]
theorem spec_I3_eq (a : SRect) (b c d : Int) (k : V -> Option R) : fnK env_I3 Try.f106 (av_I3 a b c d) k = spec_I3 a b c d k := by kernel_rfl
theorem mk_I3 (h_E4 : G_E4) (h_D5 : G_D5) (h : ∀ (a : SRect) (b d f : Int), Real (av_I3 a b d f) -> spec_I3 a b d f some = some (V.tup [(V.int .i64 (m_I3 a b d f).1), (V.int .i64 (m_I3 a b d f).2.1), (V.bool (m_I3 a b d f).2.2)])) : G_I3 := goodHook1 fun l hp => by
  unfold hp_I3 at hp
  split at hp
  · rename_i g i j m o q r
    exact fn_ok (fn := Try.f106) (c := bodyOf Try.f106) (E := env_I3) ⟨by kernel_rfl, (goodCons h_E4 (goodCons h_D5 goodNil)), rfl⟩ rfl (by kernel_rfl) (by kernel_rfl) (by kernel_rfl) (loopsOK_of _ (by have e : loopsOf (bodyOf Try.f106) = [] := (by kernel_rfl); rw [e]; intro p hp; cases hp)) (fun hr => (spec_I3_eq (SRect.mk g i j m) o q r some).trans (h (SRect.mk g i j m) o q r hr))
  · cases hp
theorem au_I3 (a : SRect) (b c d : Int) : pre_I3 a b c d = true -> spec_I3 a b c d some = some ((fun (m : Int × Int × Bool) => (V.tup [V.int .i64 m.1, V.int .i64 m.2.1, V.bool m.2.2])) (m_I3 a b c d)) := by
  repeat' (first | exact fun _ => rfl | exact fun h => absurd h (by decide) | refine bif_p (v := (fun (m : Int × Int × Bool) => (V.tup [V.int .i64 m.1, V.int .i64 m.2.1, V.bool m.2.2]))) ?_ ?_)
theorem good_I3_of (h_E4 : G_E4) (h_D5 : G_D5) : G_I3 := mk_I3 h_E4 h_D5 (fun _ _ _ _ _ => au_I3 _ _ _ _ (pt_I3 _ _ _ _))
noncomputable def env_J7 : Env R := ⟨Try.prog, callNil, fun _ _ _ _ _ => none, Try.f107.results.toList, maskTab 32 [(0, 0x10f), (1, 0x703), (2, 0x100)], maskAt [(2, 1), (4, 9)]⟩
noncomputable def spec_J7 (a b c d : Int) (k : V -> Option R) : Option R := bif (decide (0 <= (IntKind.wrap .u64 c))) then let e := IntKind.wrap .i64 (1 * 2 ^ (min (Int.toNat (IntKind.wrap .u64 c)) 64)); bif (decide (0 <= (IntKind.wrap .u64 d))) then let f := IntKind.wrap .i64 (1 * 2 ^ (min (Int.toNat (IntKind.wrap .u64 d)) 64)); let g := IntKind.wrap .i64 (a * e); let i := IntKind.wrap .i64 (b * f); let j := IntKind.wrap .i64 (a + 1); let m := IntKind.wrap .i64 (j * e); let o := IntKind.wrap .i64 (b + 1); let p := IntKind.wrap .i64 (o * f); k (V.agg [V.int .i64 g, V.int .i64 i, V.int .i64 m, V.int .i64 p]) else none else none
abbrev av_J7 (a b c d : Int) : List V := [V.int .i64 a, V.int .i64 b, V.int .i64 c, V.int .i64 d]
theorem spec_J7_eq (a b c d : Int) (k : V -> Option R) : fnK env_J7 Try.f107 (av_J7 a b c d) k = spec_J7 a b c d k := by kernel_rfl
theorem mk_J7 (h : ∀ (a b d f : Int), Real (av_J7 a b d f) -> spec_J7 a b d f some = some (SRect.v (m_J7 a b d f))) : G_J7 := goodHook1 fun l hp => by
  unfold hp_J7 at hp
  split at hp
  · rename_i g i j m
    exact fn_ok (fn := Try.f107) (c := bodyOf Try.f107) (E := env_J7) ⟨by kernel_rfl, goodNil, rfl⟩ rfl (by kernel_rfl) (by kernel_rfl) (by kernel_rfl) (loopsOK_of _ (by have e : loopsOf (bodyOf Try.f107) = [] := (by kernel_rfl); rw [e]; intro p hp; cases hp)) (fun hr => (spec_J7_eq g i j m some).trans (h g i j m hr))
  · cases hp
theorem au_J7 (a b c d : Int) : pre_J7 a b c d = true -> spec_J7 a b c d some = some ((fun (m : SRect) => (SRect.v m)) (m_J7 a b c d)) := by
  repeat' (first | exact fun _ => rfl | exact fun h => absurd h (by decide) | refine bif_p (v := (fun (m : SRect) => (SRect.v m))) ?_ ?_)
theorem good_J7_of : G_J7 := mk_J7 (fun _ _ _ _ _ => au_J7 _ _ _ _ (pt_J7 _ _ _ _))
noncomputable def env_G7 : Env R := ⟨Try.prog, callCons 32 c_D9 (callCons 37 c_H5 (callCons 106 c_I3 (callCons 107 c_J7 callNil))), fun _ _ _ _ _ => none, Try.f100.results.toList, maskTab 67 [(0, 0xc000cce00010fc), (1, 0xc000cce001d09c), (2, 0xc001000000d09c), (3, 0x3000), (4, 0xc008000000d098), (5, 0x3000), (6, 0x10000000000d098), (7, 0x3000), (8, 0x3000)], maskAt [(2, 4), (4, 16), (6, 31), (8, 34), (10, 36), (12, 45), (14, 51), (16, 54)]⟩
noncomputable def spec_G7 (f d : SRect) (e b c g : Int) (k : V -> Option R) : Option R := let a := m_I3 f b c g; bif ((!a.2.2) == false) then let i := m_H5 d; let j := decide (e < 0); let m : Bool := (bif (!i) then true else j); let o := decide (e > 3); let p : Bool := (bif m then true else o); bif p then k (V.tup [(V.agg [(V.int .i64 0), (V.int .i64 0), (V.int .i64 0), (V.int .i64 0)]), V.bool false]) else bif (e == 0) then let q := m_J7 a.1 a.2.1 b c; let r := m_D9 d q; k (V.tup [(SRect.v r), V.bool true]) else let s : Bool := (bif (b == 0) then true else (c == 0)); bif s then k (V.tup [(V.agg [(V.int .i64 0), (V.int .i64 0), (V.int .i64 0), (V.int .i64 0)]), V.bool false]) else let t := IntKind.wrap .i64 (b - 1); let u := IntKind.wrap .i64 (c - 1); let v := m_J7 a.1 a.2.1 t u; let w := m_D9 d v; k (V.tup [(SRect.v w), V.bool true]) else k (V.tup [(V.agg [(V.int .i64 0), (V.int .i64 0), (V.int .i64 0), (V.int .i64 0)]), V.bool false])
abbrev av_G7 (a b : SRect) (c d e f : Int) : List V := [(SRect.v a), (SRect.v b), V.int .i64 c, V.int .i64 d, V.int .i64 e, V.int .i64 f]
theorem spec_G7_eq (a b : SRect) (c d e f : Int) (k : V -> Option R) : fnK env_G7 Try.f100 (av_G7 a b c d e f) k = spec_G7 a b c d e f k := by kernel_rfl
theorem mk_G7 (h_D9 : G_D9) (h_H5 : G_H5) (h_I3 : G_I3) (h_J7 : G_J7) (h : ∀ (a b : SRect) (d f g i : Int), Real (av_G7 a b d f g i) -> spec_G7 a b d f g i some = some (V.tup [(SRect.v (m_G7 a b d f g i).1), (V.bool (m_G7 a b d f g i).2)])) : G_G7 := goodHook1 fun l hp => by
  unfold hp_G7 at hp
  split at hp
  · rename_i j m o q r s t u v w y z
    exact fn_ok (fn := Try.f100) (c := bodyOf Try.f100) (E := env_G7) ⟨by kernel_rfl, (goodCons h_D9 (goodCons h_H5 (goodCons h_I3 (goodCons h_J7 goodNil)))), rfl⟩ rfl (by kernel_rfl) (by kernel_rfl) (by kernel_rfl) (loopsOK_of _ (by have e : loopsOf (bodyOf Try.f100) = [] := (by kernel_rfl); rw [e]; intro p hp; cases hp)) (fun hr => (spec_G7_eq (SRect.mk j m o q) (SRect.mk r s t u) v w y z some).trans (h (SRect.mk j m o q) (SRect.mk r s t u) v w y z hr))
  · cases hp
theorem au_G7 (a b : SRect) (c d e f : Int) : spec_G7 a b c d e f some = some ((fun (m : SRect × Bool) => (V.tup [(SRect.v m.1), V.bool m.2])) (m_G7 a b c d e f)) := by
  repeat' (first | rfl | refine bif_t (v := (fun (m : SRect × Bool) => (V.tup [(SRect.v m.1), V.bool m.2]))) ?_ ?_)
theorem good_G7_of (h_D9 : G_D9) (h_H5 : G_H5) (h_I3 : G_I3) (h_J7 : G_J7) : G_G7 := mk_G7 h_D9 h_H5 h_I3 h_J7 (fun _ _ _ _ _ _ _ => au_G7 _ _ _ _ _ _)
noncomputable def env_F1 : Env R := ⟨Try.prog, callCons 32 c_D9 (callCons 106 c_I3 (callCons 107 c_J7 callNil)), fun _ _ _ _ _ => none, Try.f108.results.toList, maskTab 32 [(0, 0x11e), (1, 0x1d16), (2, 0x800d16), (3, 0x300), (4, 0x300)], maskAt [(2, 3), (4, 15), (6, 17), (8, 20)]⟩
noncomputable def spec_F1 (b : SRect) (c d e : Int) (k : V -> Option R) : Option R := let a := m_I3 b c d e; bif (!a.2.2) then k (V.tup [(V.agg [(V.int .i64 0), (V.int .i64 0), (V.int .i64 0), (V.int .i64 0)]), V.bool false]) else let f := m_J7 a.1 a.2.1 c d; let g := m_D9 b f; k (V.tup [(SRect.v g), V.bool true])
abbrev av_F1 (a : SRect) (b c d : Int) : List V := [(SRect.v a), V.int .i64 b, V.int .i64 c, V.int .i64 d]
theorem spec_F1_eq (a : SRect) (b c d : Int) (k : V -> Option R) : fnK env_F1 Try.f108 (av_F1 a b c d) k = spec_F1 a b c d k := by kernel_rfl
theorem mk_F1 (h_D9 : G_D9) (h_I3 : G_I3) (h_J7 : G_J7) (h : ∀ (a : SRect) (b d f : Int), Real (av_F1 a b d f) -> spec_F1 a b d f some = some (V.tup [(SRect.v (m_F1 a b d f).1), (V.bool (m_F1 a b d f).2)])) : G_F1 := goodHook1 fun l hp => by
  unfold hp_F1 at hp
  split at hp
  · rename_i g i j m o q r
    exact fn_ok (fn := Try.f108) (c := bodyOf Try.f108) (E := env_F1) ⟨by kernel_rfl, (goodCons h_D9 (goodCons h_I3 (goodCons h_J7 goodNil))), rfl⟩ rfl (by kernel_rfl) (by kernel_rfl) (by kernel_rfl) (loopsOK_of _ (by have e : loopsOf (bodyOf Try.f108) = [] := (by kernel_rfl); rw [e]; intro p hp; cases hp)) (fun hr => (spec_F1_eq (SRect.mk g i j m) o q r some).trans (h (SRect.mk g i j m) o q r hr))
  · cases hp
theorem au_F1 (a : SRect) (b c d : Int) : spec_F1 a b c d some = some ((fun (m : SRect × Bool) => (V.tup [(SRect.v m.1), V.bool m.2])) (m_F1 a b c d)) := by
  repeat' (first | rfl | refine bif_t (v := (fun (m : SRect × Bool) => (V.tup [(SRect.v m.1), V.bool m.2]))) ?_ ?_)
theorem good_F1_of (h_D9 : G_D9) (h_I3 : G_I3) (h_J7 : G_J7) : G_F1 := mk_F1 h_D9 h_I3 h_J7 (fun _ _ _ _ _ => au_F1 _ _ _ _)
noncomputable def fuel_H4_0 (e f a b c : Int) (g : SRect) (i : Rows) : Nat := let d := IntKind.wrap .i64 (a * b); Int.toNat (d - c) + 1
noncomputable def step_H4_0 (c d e f : Int) (g : SRect) (a : Int) (b : Rows) (again : Int -> Rows -> Option R) (kn : Int -> Rows -> Option R) : Option R := let i := IntKind.wrap .i64 (e * f); bif (decide (a < i)) then let j := m_F1 g c d a; bif (roomOK ((List.length b) + (1 : Nat)) 32) then let m := b ++ [(SRect.row j.1)]; let o := IntKind.wrap .i64 (a + 1); again o m else none else kn a b
noncomputable def loop_H4_0 (a b c d : Int) (e : SRect) : Nat -> Int -> Rows -> (Int -> Rows -> Option R) -> Option R
  | 0, _, _, _ => none
  | n + 1, f, g, kn => step_H4_0 a b c d e f g (fun i j => loop_H4_0 a b c d e n i j kn) kn
noncomputable def shape_H4_0 : ST := ⟨.undef :: .int .i64 :: .int .i64 :: .ptr 0 0 0 :: .undef :: .undef :: .int .i64 :: .int .i64 :: .vs 31 :: .int .i64 :: unds 45 [], [(0, .var SRect.sh false SRect.ts), (31, .vec SRect.sh false)], 32⟩
noncomputable def st_H4_0 (b c d e : Int) (a : SRect) (f : Int) (g : Rows) : St := shape_H4_0.put [.i b, .i c, .i d, .i e, .i f, .i a.X0, .i a.Y0, .i a.X1, .i a.Y1, .r g]
noncomputable def hook_H4_0 : LoopG R := fun l kn _ _ => match l with
  | .i a :: .i b :: .i c :: .i d :: .i j :: .i e :: .i f :: .i g :: .i i :: .r m :: [] => loop_H4_0 a b c d (SRect.mk e f g i) (fuel_H4_0 a b c d j (SRect.mk e f g i) m) j m (fun o p => kn (st_H4_0 a b c d (SRect.mk e f g i) o p))
  | _ => none
noncomputable def env_H4 : Env R := ⟨Try.prog, callCons 90 c_D5 (callCons 108 c_F1 callNil), fun id => bif Nat.beq id 0 then loopAlt shape_H4_0 hook_H4_0 loopNil else (fun _ _ _ _ _ => none) id, Try.f101.results.toList, maskTab 55 [(0, 0x199810e), (1, 0x200010e), (2, 0x1c0), (3, 0x1ce), (4, 0x3ce), (5, 0x20000003ce), (6, 0x3ce), (7, 0x7ce), (8, 0x3ce), (9, 0x1c0)], maskAt [(1, 31), (2, 4), (4, 18), (6, 21), (8, 30), (10, 35), (12, 56), (14, 40), (16, 51), (18, 59)]⟩
theorem step_H4_0_eq (a b c d : Int) (e : SRect) (i : Int) (j : Rows) (kn : St -> Option R) (kx : Nat -> St -> Option R) (kr : V -> Option R) (n : Nat) (m : Int) (o : Rows) :
    loopN env_H4 0 (loopAt Try.f101 0) (st_H4_0 a b c d e i j) kn kx kr (n + 1) (st_H4_0 a b c d e m o) =
    step_H4_0 a b c d e m o (fun f g => loopN env_H4 0 (loopAt Try.f101 0) (st_H4_0 a b c d e i j) kn kx kr n (st_H4_0 a b c d e f g)) (fun f g => kn (st_H4_0 a b c d e f g)) := by kernel_rfl
theorem loop_H4_0_eq (a b c d : Int) (e : SRect) (m : Int) (o : Rows) (kn : St -> Option R) (kx : Nat -> St -> Option R) (kr : V -> Option R) : ∀ (n : Nat) (f : Int) (g : Rows),
    loop_H4_0 a b c d e n f g (fun i j => kn (st_H4_0 a b c d e i j)) = loopN env_H4 0 (loopAt Try.f101 0) (st_H4_0 a b c d e m o) kn kx kr n (st_H4_0 a b c d e f g)
  | 0, _, _ => rfl
  | n + 1, f, g => by
    rw [step_H4_0_eq, loop_H4_0]
    congr 1
    funext i j
    exact loop_H4_0_eq a b c d e m o kn kx kr n i j
theorem goodl_H4_0 {rest} (h : GoodL (R := R) env_H4 0 (loopAt Try.f101 0) rest) : GoodL (R := R) env_H4 0 (loopAt Try.f101 0) (loopAlt shape_H4_0 hook_H4_0 rest) := by
  refine goodL_alt (fun l kn kx kr r h => ?_) h
  unfold hook_H4_0 at h
  split at h
  · rename_i c d e f a g i j m b
    exact ⟨_, (loop_H4_0_eq c d e f (SRect.mk g i j m) a b kn kx kr _ a b).symm.trans h⟩
  · cases h
theorem good_H4_0 : GoodLoop (R := R) env_H4 0 (loopAt Try.f101 0) := goodL_loop (g := loopAlt shape_H4_0 hook_H4_0 loopNil) (fun _ _ _ _ => rfl) (goodl_H4_0 goodL_nil)
noncomputable def spec_H4 (d : SRect) (b c : Int) (k : V -> Option R) : Option R := let e := decide (b < 0); let f := decide (b > 6); let g : Bool := (bif e then true else f); let i := decide (c < 0); let j : Bool := (bif g then true else i); let m := decide (c > 6); let o : Bool := (bif j then true else m); bif o then k (V.tup [(V.int .i64 0), (V.int .i64 0), (V.data SRect.sh [])]) else let a := m_D5 d b c; loop_H4_0 b c a.1 a.2 d (fuel_H4_0 b c a.1 a.2 0 d []) 0 [] (fun q p => k (V.tup [V.int .i64 a.1, V.int .i64 a.2, V.data SRect.sh p]))
abbrev av_H4 (a : SRect) (b c : Int) : List V := [(SRect.v a), V.int .i64 b, V.int .i64 c]
theorem spec_H4_eq (a : SRect) (b c : Int) (k : V -> Option R) : fnK env_H4 Try.f101 (av_H4 a b c) k = spec_H4 a b c k := by kernel_rfl
theorem mk_H4 (h_D5 : G_D5) (h_F1 : G_F1) (h : ∀ (a : SRect) (b d : Int), Real (av_H4 a b d) -> spec_H4 a b d some = some (V.tup [(V.int .i64 (m_H4 a b d).1), (V.int .i64 (m_H4 a b d).2.1), (V.data SRect.sh (m_H4 a b d).2.2)])) : G_H4 := goodHook1 fun l hp => by
  unfold hp_H4 at hp
  split at hp
  · rename_i f g i j m o
    exact fn_ok (fn := Try.f101) (c := bodyOf Try.f101) (E := env_H4) ⟨by kernel_rfl, (goodCons h_D5 (goodCons h_F1 goodNil)), rfl⟩ rfl (by kernel_rfl) (by kernel_rfl) (by kernel_rfl) (loopsOK_of _ (by have e : loopsOf (bodyOf Try.f101) = [(0, loopAt Try.f101 0)] := (by kernel_rfl); rw [e]; simp only [List.forall_mem_cons, List.not_mem_nil, false_implies, implies_true, and_true]; exact good_H4_0)) (fun hr => (spec_H4_eq (SRect.mk f g i j) m o some).trans (h (SRect.mk f g i j) m o hr))
  · cases hp
noncomputable def env_G5 : Env R := ⟨Try.prog, callCons 60 c_C1 (callCons 77 c_E8 (callCons 79 c_J4 (callCons 98 c_I8 (callCons 100 c_G7 (callCons 101 c_H4 callNil))))), fun _ _ _ _ _ => none, Try.f92.results.toList, maskTab 73 [(0, 0x7c), (1, 0x407c), (2, 0x1407c), (3, 0x70044), (4, 0x8000000030044), (5, 0x1c00), (6, 0x1c00)], maskAt [(2, 5), (4, 16), (6, 21), (8, 44), (10, 46), (12, 49)]⟩
noncomputable def spec_G5 (e : SRect) (a : SParams) (b f m : Int) (k : V -> Option R) : Option R := let o := m_I8 f a.Levels; let c := m_E8 a b; let p := m_C1 e a.Levels b; let q := m_J4 e a.Levels f; let g := m_G7 p q o.2.1 c.X c.Y m; bif (!g.2) then k (V.tup [(V.int .i64 0), (V.int .i64 0), (V.data SRect.sh [])]) else let r : Int := (bif (decide (1 < b)) then 1 else b); let i := IntKind.wrap .i64 (c.X - r); let s : Int := (bif (decide (i < a.BlockX)) then i else a.BlockX); let t : Int := (bif (decide (1 < b)) then 1 else b); let j := IntKind.wrap .i64 (c.Y - t); let u : Int := (bif (decide (j < a.BlockY)) then j else a.BlockY); let d := m_H4 g.1 s u; k (V.tup [V.int .i64 d.1, V.int .i64 d.2.1, V.data SRect.sh d.2.2])
abbrev av_G5 (a : SRect) (b : SParams) (c d e : Int) : List V := [(SRect.v a), (SParams.v b), V.int .i64 c, V.int .i64 d, V.int .i64 e]
theorem spec_G5_eq (a : SRect) (b : SParams) (c d e : Int) (k : V -> Option R) : fnK env_G5 Try.f92 (av_G5 a b c d e) k = spec_G5 a b c d e k := by kernel_rfl
theorem mk_G5 (h_C1 : G_C1) (h_E8 : G_E8) (h_J4 : G_J4) (h_I8 : G_I8) (h_G7 : G_G7) (h_H4 : G_H4) (h : ∀ (a : SRect) (b : SParams) (d f g : Int), Real (av_G5 a b d f g) -> spec_G5 a b d f g some = some (V.tup [(V.int .i64 (m_G5 a b d f g).1), (V.int .i64 (m_G5 a b d f g).2.1), (V.data SRect.sh (m_G5 a b d f g).2.2)])) : G_G5 := goodHook1 fun l hp => by
  unfold hp_G5 at hp
  split at hp
  · rename_i i j m o q r s t u v w y z A B D F H I J K L M N O Q
    exact fn_ok (fn := Try.f92) (c := bodyOf Try.f92) (E := env_G5) ⟨by kernel_rfl, (goodCons h_C1 (goodCons h_E8 (goodCons h_J4 (goodCons h_I8 (goodCons h_G7 (goodCons h_H4 goodNil)))))), rfl⟩ rfl (by kernel_rfl) (by kernel_rfl) (by kernel_rfl) (loopsOK_of _ (by have e : loopsOf (bodyOf Try.f92) = [] := (by kernel_rfl); rw [e]; intro p hp; cases hp)) (fun hr => (spec_G5_eq (SRect.mk i j m o) (SParams.mk q r s t u v w y (SMode.mk z A B D F) H I J K L M) N O Q some).trans (h (SRect.mk i j m o) (SParams.mk q r s t u v w y (SMode.mk z A B D F) H I J K L M) N O Q hr))
  · cases hp
theorem au_G5 (a : SRect) (b : SParams) (c d e : Int) : spec_G5 a b c d e some = some ((fun (m : Int × Int × Rows) => (V.tup [V.int .i64 m.1, V.int .i64 m.2.1, V.data SRect.sh m.2.2])) (m_G5 a b c d e)) := by
  repeat' (first | rfl | refine bif_t (v := (fun (m : Int × Int × Rows) => (V.tup [V.int .i64 m.1, V.int .i64 m.2.1, V.data SRect.sh m.2.2]))) ?_ ?_)
theorem good_G5_of (h_C1 : G_C1) (h_E8 : G_E8) (h_J4 : G_J4) (h_I8 : G_I8) (h_G7 : G_G7) (h_H4 : G_H4) : G_G5 := mk_G5 h_C1 h_E8 h_J4 h_I8 h_G7 h_H4 (fun _ _ _ _ _ _ => au_G5 _ _ _ _ _)
noncomputable def fuel_C7_2 (d e f : Int) (g : Rows) (i : Int) (a : Rows) (b : Int) (j : SRect) (m : SParams) (o : Rows) : Nat := let c := (((List.length a) : Nat) : Int); Int.toNat (c - b) + 1
noncomputable def step_C7_2 (g i j : Int) (e : Rows) (f : Int) (c : Rows) (t : SRect) (u : SParams) (a : Int) (d : Rows) (again : Int -> Rows -> Option R) (kn : Int -> Rows -> Option R) : Option R := let m := (((List.length c) : Nat) : Int); bif (decide (a < m)) then bif (inR f (List.length e)) then let o := List.getD e (Int.toNat f) []; let p := V.toInt (List.getD o 0 V.undef); bif (inR a (List.length c)) then let q := List.getD c (Int.toNat a) []; let b := SRect.of q; bif (roomOK ((List.length d) + (1 : Nat)) 72) then let r := d ++ [[V.int .i64 g, V.int .i64 i, V.int .i64 p, V.int .i64 j, V.int .i64 a, V.int .i64 b.X0, V.int .i64 b.Y0, V.int .i64 b.X1, V.int .i64 b.Y1]]; let s := IntKind.wrap .i64 (a + 1); again s r else none else none else none else kn a d
noncomputable def loop_C7_2 (a b c : Int) (d : Rows) (e : Int) (f : Rows) (g : SRect) (i : SParams) : Nat -> Int -> Rows -> (Int -> Rows -> Option R) -> Option R
  | 0, _, _, _ => none
  | n + 1, j, m, kn => step_C7_2 a b c d e f g i j m (fun o p => loop_C7_2 a b c d e f g i n o p kn) kn
noncomputable def shape_C7_2 : ST := ⟨.undef :: .undef :: .int .i64 :: .int .i64 :: .int .i64 :: .ptr 0 0 0 :: .ptr 1 0 0 :: unds 4 (.vs 3 :: .data [.int .i64] :: .int .i64 :: .undef :: .undef :: .data SRect.sh :: .int .i64 :: unds 47 []), [(0, .var SRect.sh false SRect.ts), (1, .var SParams.sh false SParams.ts), (3, .vec SBlockID.sh false)], 36⟩
noncomputable def st_C7_2 (c d e : Int) (f : Rows) (g : Int) (i : Rows) (b : SRect) (a : SParams) (j : Int) (m : Rows) : St := shape_C7_2.put [.i c, .i d, .i e, .r f, .i g, .r i, .i j, .i b.X0, .i b.Y0, .i b.X1, .i b.Y1, .i a.Kernel, .i a.Levels, .i a.Color, .i a.BlockX, .i a.BlockY, .r a.Precincts, .i a.Order, .i a.Layers, .b a.Mode.Bypass, .b a.Mode.Restart, .b a.Mode.Reset, .b a.Mode.Causal, .b a.Mode.Symbols, .b a.Divide, .b a.Sync, .b a.Fence, .r a.Steps, .i a.Dead, .i a.Shift, .r m]
noncomputable def hook_C7_2 : LoopG R := fun l kn _ _ => match l with
  | .i a :: .i b :: .i c :: .r d :: .i e :: .r f :: .i K :: .i g :: .i i :: .i j :: .i m :: .i o :: .i p :: .i q :: .i r :: .i s :: .r t :: .i u :: .i v :: .b w :: .b y :: .b z :: .b A :: .b B :: .b D :: .b E :: .b F :: .r H :: .i I :: .i J :: .r L :: [] => loop_C7_2 a b c d e f (SRect.mk g i j m) (SParams.mk o p q r s t u v (SMode.mk w y z A B) D E F H I J) (fuel_C7_2 a b c d e f K (SRect.mk g i j m) (SParams.mk o p q r s t u v (SMode.mk w y z A B) D E F H I J) L) K L (fun M N => kn (st_C7_2 a b c d e f (SRect.mk g i j m) (SParams.mk o p q r s t u v (SMode.mk w y z A B) D E F H I J) M N))
  | _ => none
noncomputable def fuel_C7_0 (d e f : Int) (a : Rows) (b : Int) (g : SRect) (i : SParams) (j : Rows) : Nat := let c := (((List.length a) : Nat) : Int); Int.toNat (c - b) + 1
noncomputable def step_C7_0 (i c d : Int) (b : Rows) (e : SRect) (f : SParams) (a : Int) (g : Rows) (again : Int -> Rows -> Option R) (kn : Int -> Rows -> Option R) : Option R := let m := (((List.length b) : Nat) : Int); bif (decide (a < m)) then bif (inR a (List.length b)) then let o := List.getD b (Int.toNat a) []; let p := V.toInt (List.getD o 0 V.undef); let j := m_G5 e f c p d; loop_C7_2 i c d b a j.2.2 e f (fuel_C7_2 i c d b a j.2.2 0 e f g) 0 g (fun s q => let r := IntKind.wrap .i64 (a + 1); again r q) else none else kn a g
noncomputable def loop_C7_0 (a b c : Int) (d : Rows) (e : SRect) (f : SParams) : Nat -> Int -> Rows -> (Int -> Rows -> Option R) -> Option R
  | 0, _, _, _ => none
  | n + 1, g, i, kn => step_C7_0 a b c d e f g i (fun j m => loop_C7_0 a b c d e f n j m kn) kn
noncomputable def shape_C7_0 : ST := ⟨.undef :: .undef :: .int .i64 :: .int .i64 :: .int .i64 :: .ptr 0 0 0 :: .ptr 1 0 0 :: unds 4 (.vs 3 :: .data [.int .i64] :: .int .i64 :: unds 51 []), [(0, .var SRect.sh false SRect.ts), (1, .var SParams.sh false SParams.ts), (3, .vec SBlockID.sh false)], 11⟩
noncomputable def st_C7_0 (c d e : Int) (f : Rows) (b : SRect) (a : SParams) (g : Int) (i : Rows) : St := shape_C7_0.put [.i c, .i d, .i e, .r f, .i g, .i b.X0, .i b.Y0, .i b.X1, .i b.Y1, .i a.Kernel, .i a.Levels, .i a.Color, .i a.BlockX, .i a.BlockY, .r a.Precincts, .i a.Order, .i a.Layers, .b a.Mode.Bypass, .b a.Mode.Restart, .b a.Mode.Reset, .b a.Mode.Causal, .b a.Mode.Symbols, .b a.Divide, .b a.Sync, .b a.Fence, .r a.Steps, .i a.Dead, .i a.Shift, .r i]
noncomputable def hook_C7_0 : LoopG R := fun l kn _ _ => match l with
  | .i a :: .i b :: .i c :: .r d :: .i I :: .i e :: .i f :: .i g :: .i i :: .i j :: .i m :: .i o :: .i p :: .i q :: .r r :: .i s :: .i t :: .b u :: .b v :: .b w :: .b y :: .b z :: .b A :: .b B :: .b D :: .r E :: .i F :: .i H :: .r J :: [] => loop_C7_0 a b c d (SRect.mk e f g i) (SParams.mk j m o p q r s t (SMode.mk u v w y z) A B D E F H) (fuel_C7_0 a b c d I (SRect.mk e f g i) (SParams.mk j m o p q r s t (SMode.mk u v w y z) A B D E F H) J) I J (fun K L => kn (st_C7_0 a b c d (SRect.mk e f g i) (SParams.mk j m o p q r s t (SMode.mk u v w y z) A B D E F H) K L))
  | _ => none
noncomputable def env_C7 : Env R := ⟨Try.prog, callCons 91 c_F2 (callCons 92 c_G5 callNil), fun id => bif Nat.beq id 2 then loopAlt shape_C7_2 hook_C7_2 loopNil else (fun id => bif Nat.beq id 0 then loopAlt shape_C7_0 hook_C7_0 loopNil else (fun _ _ _ _ _ => none) id) id, Try.f64.results.toList, maskTab 65 [(0, 0x7c), (1, 0x87c), (2, 0x187c), (3, 0x387c), (4, 0x400387c), (5, 0x387c), (6, 0x1387c), (7, 0x3387c), (8, 0x20000003387c), (9, 0x3387c), (10, 0x3387c), (11, 0x400)], maskAt [(1, 11), (2, 3), (4, 5), (5, 36), (6, 10), (8, 15), (10, 64), (12, 19), (14, 35), (16, 40), (18, 61), (20, 44), (22, 67)]⟩
theorem step_C7_2_eq (a b c : Int) (d : Rows) (e : Int) (f : Rows) (g : SRect) (i : SParams) (o : Int) (p : Rows) (kn : St -> Option R) (kx : Nat -> St -> Option R) (kr : V -> Option R) (n : Nat) (q : Int) (r : Rows) :
    loopN env_C7 2 (loopAt Try.f64 1) (st_C7_2 a b c d e f g i o p) kn kx kr (n + 1) (st_C7_2 a b c d e f g i q r) =
    step_C7_2 a b c d e f g i q r (fun j m => loopN env_C7 2 (loopAt Try.f64 1) (st_C7_2 a b c d e f g i o p) kn kx kr n (st_C7_2 a b c d e f g i j m)) (fun j m => kn (st_C7_2 a b c d e f g i j m)) := by kernel_rfl
theorem loop_C7_2_eq (a b c : Int) (d : Rows) (e : Int) (f : Rows) (g : SRect) (i : SParams) (q : Int) (r : Rows) (kn : St -> Option R) (kx : Nat -> St -> Option R) (kr : V -> Option R) : ∀ (n : Nat) (j : Int) (m : Rows),
    loop_C7_2 a b c d e f g i n j m (fun o p => kn (st_C7_2 a b c d e f g i o p)) = loopN env_C7 2 (loopAt Try.f64 1) (st_C7_2 a b c d e f g i q r) kn kx kr n (st_C7_2 a b c d e f g i j m)
  | 0, _, _ => rfl
  | n + 1, j, m => by
    rw [step_C7_2_eq, loop_C7_2]
    congr 1
    funext o p
    exact loop_C7_2_eq a b c d e f g i q r kn kx kr n o p
theorem goodl_C7_2 {rest} (h : GoodL (R := R) env_C7 2 (loopAt Try.f64 1) rest) : GoodL (R := R) env_C7 2 (loopAt Try.f64 1) (loopAlt shape_C7_2 hook_C7_2 rest) := by
  refine goodL_alt (fun l kn kx kr r h => ?_) h
  unfold hook_C7_2 at h
  split at h
  · rename_i c d e f g i a j m o p q s t u v w y z A B D E F H I J K L M b
    exact ⟨_, (loop_C7_2_eq c d e f g i (SRect.mk j m o p) (SParams.mk q s t u v w y z (SMode.mk A B D E F) H I J K L M) a b kn kx kr _ a b).symm.trans h⟩
  · cases h
theorem step_C7_0_eq (a b c : Int) (d : Rows) (e : SRect) (f : SParams) (j : Int) (m : Rows) (kn : St -> Option R) (kx : Nat -> St -> Option R) (kr : V -> Option R) (n : Nat) (o : Int) (p : Rows) :
    loopN env_C7 0 (loopAt Try.f64 0) (st_C7_0 a b c d e f j m) kn kx kr (n + 1) (st_C7_0 a b c d e f o p) =
    step_C7_0 a b c d e f o p (fun g i => loopN env_C7 0 (loopAt Try.f64 0) (st_C7_0 a b c d e f j m) kn kx kr n (st_C7_0 a b c d e f g i)) (fun g i => kn (st_C7_0 a b c d e f g i)) := by kernel_rfl
theorem loop_C7_0_eq (a b c : Int) (d : Rows) (e : SRect) (f : SParams) (o : Int) (p : Rows) (kn : St -> Option R) (kx : Nat -> St -> Option R) (kr : V -> Option R) : ∀ (n : Nat) (g : Int) (i : Rows),
    loop_C7_0 a b c d e f n g i (fun j m => kn (st_C7_0 a b c d e f j m)) = loopN env_C7 0 (loopAt Try.f64 0) (st_C7_0 a b c d e f o p) kn kx kr n (st_C7_0 a b c d e f g i)
  | 0, _, _ => rfl
  | n + 1, g, i => by
    rw [step_C7_0_eq, loop_C7_0]
    congr 1
    funext j m
    exact loop_C7_0_eq a b c d e f o p kn kx kr n j m
theorem goodl_C7_0 {rest} (h : GoodL (R := R) env_C7 0 (loopAt Try.f64 0) rest) : GoodL (R := R) env_C7 0 (loopAt Try.f64 0) (loopAlt shape_C7_0 hook_C7_0 rest) := by
  refine goodL_alt (fun l kn kx kr r h => ?_) h
  unfold hook_C7_0 at h
  split at h
  · rename_i c d e f a g i j m o p q s t u v w y z A B D E F H I J K b
    exact ⟨_, (loop_C7_0_eq c d e f (SRect.mk g i j m) (SParams.mk o p q s t u v w (SMode.mk y z A B D) E F H I J K) a b kn kx kr _ a b).symm.trans h⟩
  · cases h
theorem good_C7_0 : GoodLoop (R := R) env_C7 0 (loopAt Try.f64 0) := goodL_loop (g := loopAlt shape_C7_0 hook_C7_0 loopNil) (fun _ _ _ _ => rfl) (goodl_C7_0 goodL_nil)
theorem good_C7_2 : GoodLoop (R := R) env_C7 2 (loopAt Try.f64 1) := goodL_loop (g := loopAlt shape_C7_2 hook_C7_2 loopNil) (fun _ _ _ _ => rfl) (goodl_C7_2 goodL_nil)
noncomputable def spec_C7 (c : SRect) (a : SParams) (d b e : Int) (k : V -> Option R) : Option R := let f := m_F2 a.Levels b; loop_C7_0 d b e f c a (fuel_C7_0 d b e f 0 c a []) 0 [] (fun i g => k (V.data SBlockID.sh g))
abbrev av_C7 (a : SRect) (b : SParams) (c d e : Int) : List V := [(SRect.v a), (SParams.v b), V.int .i64 c, V.int .i64 d, V.int .i64 e]
theorem spec_C7_eq (a : SRect) (b : SParams) (c d e : Int) (k : V -> Option R) : fnK env_C7 Try.f64 (av_C7 a b c d e) k = spec_C7 a b c d e k := by kernel_rfl
theorem mk_C7 (h_F2 : G_F2) (h_G5 : G_G5) (h : ∀ (a : SRect) (b : SParams) (d f g : Int), Real (av_C7 a b d f g) -> spec_C7 a b d f g some = some (V.data SBlockID.sh (m_C7 a b d f g))) : G_C7 := goodHook1 fun l hp => by
  unfold hp_C7 at hp
  split at hp
  · rename_i i j m o p q r s t u v w y z A B D F H I J K L M N O
    exact fn_ok (fn := Try.f64) (c := bodyOf Try.f64) (E := env_C7) ⟨by kernel_rfl, (goodCons h_F2 (goodCons h_G5 goodNil)), rfl⟩ rfl (by kernel_rfl) (by kernel_rfl) (by kernel_rfl) (loopsOK_of _ (by have e : loopsOf (bodyOf Try.f64) = [(0, loopAt Try.f64 0), (2, loopAt Try.f64 1)] := (by kernel_rfl); rw [e]; simp only [List.forall_mem_cons, List.not_mem_nil, false_implies, implies_true, and_true]; exact ⟨good_C7_0, good_C7_2⟩)) (fun hr => (spec_C7_eq (SRect.mk i j m o) (SParams.mk p q r s t u v w (SMode.mk y z A B D) F H I J K L) M N O some).trans (h (SRect.mk i j m o) (SParams.mk p q r s t u v w (SMode.mk y z A B D) F H I J K L) M N O hr))
  · cases hp
end Go.Vm
