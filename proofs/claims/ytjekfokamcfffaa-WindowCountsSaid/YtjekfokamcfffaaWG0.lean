import Derived.Test.YtjekfokamcfffaaWM
set_option linter.unusedVariables false
set_option linter.unusedSimpArgs false
set_option maxRecDepth 100000
noncomputable section
namespace Go.Vm
open Go.Proofs
variable {R : Type}
noncomputable def env_H8 : Env R := ⟨Try.prog, callNil, fun _ _ _ _ _ => none, Try.f31.results.toList, maskTab 15 [(0, 0x3e02), (1, 0x4)], maskAt [(2, 2)]⟩
noncomputable def spec_H8 (a : SRect) (k : V -> Option R) : Option R := let b : Bool := (bif (decide (a.X0 >= a.X1)) then true else (decide (a.Y0 >= a.Y1))); k (V.bool b)
abbrev av_H8 (a : SRect) : List V := [(SRect.v a)]
theorem spec_H8_eq (a : SRect) (k : V -> Option R) : fnK env_H8 Try.f31 (av_H8 a) k = spec_H8 a k := by kernel_rfl
theorem mk_H8 (h : ∀ (a : SRect), Real (av_H8 a) -> spec_H8 a some = some (V.bool (m_H8 a))) : G_H8 := goodHook1 fun l hp => by
  unfold hp_H8 at hp
  split at hp
  · rename_i b d f g
    exact fn_ok (fn := Try.f31) (c := bodyOf Try.f31) (E := env_H8) ⟨by kernel_rfl, goodNil, rfl⟩ rfl (by kernel_rfl) (by kernel_rfl) (by kernel_rfl) (loopsOK_of _ (by have e : loopsOf (bodyOf Try.f31) = [] := (by kernel_rfl); rw [e]; intro p hp; cases hp)) (fun hr => (spec_H8_eq (SRect.mk b d f g) some).trans (h (SRect.mk b d f g) hr))
  · cases hp
theorem au_H8 (a : SRect) : spec_H8 a some = some ((fun (m : Bool) => (V.bool m)) (m_H8 a)) := by
  repeat' (first | rfl | refine bif_t (v := (fun (m : Bool) => (V.bool m))) ?_ ?_)
theorem good_H8_of : G_H8 := mk_H8 (fun _ _ => au_H8 _)
noncomputable def env_I4 : Env R := ⟨Try.prog, callNil, fun _ _ _ _ _ => none, Try.f37.results.toList, maskTab 35 [(0, 0x39f39cf82), (1, 0x4)], maskAt [(2, 2)]⟩
noncomputable def spec_I4 (a : SRect) (k : V -> Option R) : Option R := let b := decide (0 <= a.X0); let c : Bool := (bif b then (decide (a.X0 <= a.X1)) else false); let d := decide (a.X1 <= 4096); let e : Bool := (bif c then d else false); let f := decide (0 <= a.Y0); let g : Bool := (bif e then f else false); let i : Bool := (bif g then (decide (a.Y0 <= a.Y1)) else false); let j := decide (a.Y1 <= 4096); let m : Bool := (bif i then j else false); k (V.bool m)
abbrev av_I4 (a : SRect) : List V := [(SRect.v a)]
theorem spec_I4_eq (a : SRect) (k : V -> Option R) : fnK env_I4 Try.f37 (av_I4 a) k = spec_I4 a k := by kernel_rfl
theorem mk_I4 (h : ∀ (a : SRect), Real (av_I4 a) -> spec_I4 a some = some (V.bool (m_I4 a))) : G_I4 := goodHook1 fun l hp => by
  unfold hp_I4 at hp
  split at hp
  · rename_i b d f g
    exact fn_ok (fn := Try.f37) (c := bodyOf Try.f37) (E := env_I4) ⟨by kernel_rfl, goodNil, rfl⟩ rfl (by kernel_rfl) (by kernel_rfl) (by kernel_rfl) (loopsOK_of _ (by have e : loopsOf (bodyOf Try.f37) = [] := (by kernel_rfl); rw [e]; intro p hp; cases hp)) (fun hr => (spec_I4_eq (SRect.mk b d f g) some).trans (h (SRect.mk b d f g) hr))
  · cases hp
theorem au_I4 (a : SRect) : spec_I4 a some = some ((fun (m : Bool) => (V.bool m)) (m_I4 a)) := by
  repeat' (first | rfl | refine bif_t (v := (fun (m : Bool) => (V.bool m))) ?_ ?_)
theorem good_I4_of : G_I4 := mk_I4 (fun _ _ => au_I4 _)
noncomputable def env_K0 : Env R := ⟨Try.prog, callNil, fun _ _ _ _ _ => none, Try.f42.results.toList, maskTab 15 [(0, 0x3807), (1, 0x40)], maskAt [(2, 1)]⟩
noncomputable def spec_K0 (a b c : Int) (k : V -> Option R) : Option R := let d : Bool := (bif (decide (b <= a)) then (decide (a <= c)) else false); k (V.bool d)
abbrev av_K0 (a b c : Int) : List V := [V.int .i64 a, V.int .i64 b, V.int .i64 c]
theorem spec_K0_eq (a b c : Int) (k : V -> Option R) : fnK env_K0 Try.f42 (av_K0 a b c) k = spec_K0 a b c k := by kernel_rfl
theorem mk_K0 (h : ∀ (a b d : Int), Real (av_K0 a b d) -> spec_K0 a b d some = some (V.bool (m_K0 a b d))) : G_K0 := goodHook1 fun l hp => by
  unfold hp_K0 at hp
  split at hp
  · rename_i f g i
    exact fn_ok (fn := Try.f42) (c := bodyOf Try.f42) (E := env_K0) ⟨by kernel_rfl, goodNil, rfl⟩ rfl (by kernel_rfl) (by kernel_rfl) (by kernel_rfl) (loopsOK_of _ (by have e : loopsOf (bodyOf Try.f42) = [] := (by kernel_rfl); rw [e]; intro p hp; cases hp)) (fun hr => (spec_K0_eq f g i some).trans (h f g i hr))
  · cases hp
theorem au_K0 (a b c : Int) : spec_K0 a b c some = some ((fun (m : Bool) => (V.bool m)) (m_K0 a b c)) := by
  repeat' (first | rfl | refine bif_t (v := (fun (m : Bool) => (V.bool m))) ?_ ?_)
theorem good_K0_of : G_K0 := mk_K0 (fun _ _ _ _ => au_K0 _ _ _)
noncomputable def env_F9 : Env R := ⟨Try.prog, callNil, fun _ _ _ _ _ => none, Try.f75.results.toList, maskTab 18 [(0, 0x3), (1, 0x83), (2, 0x10), (3, 0x23), (4, 0x4020), (5, 0x20), (6, 0x10)], maskAt [(2, 1), (4, 3), (6, 4), (8, 8), (10, 12), (12, 15)]⟩
noncomputable def spec_F9 (b a : Int) (k : V -> Option R) : Option R := let d := decide (a < 1); bif d then k (V.int .i64 0) else bif (a != 0) then let c := IntKind.wrap .i64 (Int.tdiv b a); bif (a != 0) then let e := decide ((Int.tmod b a) > 0); bif e then let f := IntKind.wrap .i64 (c + 1); k (V.int .i64 f) else k (V.int .i64 c) else none else none
abbrev av_F9 (a b : Int) : List V := [V.int .i64 a, V.int .i64 b]
theorem spec_F9_eq (a b : Int) (k : V -> Option R) : fnK env_F9 Try.f75 (av_F9 a b) k = spec_F9 a b k := by kernel_rfl
theorem mk_F9 (h : ∀ (a b : Int), Real (av_F9 a b) -> spec_F9 a b some = some (V.int .i64 (m_F9 a b))) : G_F9 := goodHook1 fun l hp => by
  unfold hp_F9 at hp
  split at hp
  · rename_i d f
    exact fn_ok (fn := Try.f75) (c := bodyOf Try.f75) (E := env_F9) ⟨by kernel_rfl, goodNil, rfl⟩ rfl (by kernel_rfl) (by kernel_rfl) (by kernel_rfl) (loopsOK_of _ (by have e : loopsOf (bodyOf Try.f75) = [] := (by kernel_rfl); rw [e]; intro p hp; cases hp)) (fun hr => (spec_F9_eq d f some).trans (h d f hr))
  · cases hp
theorem au_F9 (a b : Int) : pre_F9 a b = true -> spec_F9 a b some = some ((fun (m : Int) => (V.int .i64 m)) (m_F9 a b)) := by
  repeat' (first | exact fun _ => rfl | exact fun h => absurd h (by decide) | refine bif_p (v := (fun (m : Int) => (V.int .i64 m))) ?_ ?_)
theorem good_F9_of : G_F9 := mk_F9 (fun _ _ _ => au_F9 _ _ (pt_F9 _ _))
noncomputable def env_H0 : Env R := ⟨Try.prog, callCons 37 c_I4 (callCons 75 c_F9 callNil), fun _ _ _ _ _ => none, Try.f43.results.toList, maskTab 44 [(0, 0x199984e), (1, 0x200004e), (2, 0x40), (3, 0x40)], maskAt [(2, 2), (4, 21), (6, 23)]⟩
noncomputable def spec_H0 (a : SRect) (b c : Int) (k : V -> Option R) : Option R := let d := m_I4 a; let e := decide (b < 1); let f : Bool := (bif (!d) then true else e); let g := decide (b > 4096); let i : Bool := (bif f then true else g); let j := decide (c < 1); let m : Bool := (bif i then true else j); let o := decide (c > 4096); let p : Bool := (bif m then true else o); bif p then k (V.agg [(V.int .i64 0), (V.int .i64 0), (V.int .i64 0), (V.int .i64 0)]) else let q := m_F9 a.X0 b; let r := m_F9 a.Y0 c; let s := m_F9 a.X1 b; let t := m_F9 a.Y1 c; k (V.agg [V.int .i64 q, V.int .i64 r, V.int .i64 s, V.int .i64 t])
abbrev av_H0 (a : SRect) (b c : Int) : List V := [(SRect.v a), V.int .i64 b, V.int .i64 c]
theorem spec_H0_eq (a : SRect) (b c : Int) (k : V -> Option R) : fnK env_H0 Try.f43 (av_H0 a b c) k = spec_H0 a b c k := by kernel_rfl
theorem mk_H0 (h_I4 : G_I4) (h_F9 : G_F9) (h : ∀ (a : SRect) (b d : Int), Real (av_H0 a b d) -> spec_H0 a b d some = some (SRect.v (m_H0 a b d))) : G_H0 := goodHook1 fun l hp => by
  unfold hp_H0 at hp
  split at hp
  · rename_i f g i j m o
    exact fn_ok (fn := Try.f43) (c := bodyOf Try.f43) (E := env_H0) ⟨by kernel_rfl, (goodCons h_I4 (goodCons h_F9 goodNil)), rfl⟩ rfl (by kernel_rfl) (by kernel_rfl) (by kernel_rfl) (loopsOK_of _ (by have e : loopsOf (bodyOf Try.f43) = [] := (by kernel_rfl); rw [e]; intro p hp; cases hp)) (fun hr => (spec_H0_eq (SRect.mk f g i j) m o some).trans (h (SRect.mk f g i j) m o hr))
  · cases hp
theorem au_H0 (a : SRect) (b c : Int) : spec_H0 a b c some = some ((fun (m : SRect) => (SRect.v m)) (m_H0 a b c)) := by
  repeat' (first | rfl | refine bif_t (v := (fun (m : SRect) => (SRect.v m))) ?_ ?_)
theorem good_H0_of (h_I4 : G_I4) (h_F9 : G_F9) : G_H0 := mk_H0 h_I4 h_F9 (fun _ _ _ _ => au_H0 _ _ _)
noncomputable def env_E6 : Env R := ⟨Try.prog, callNil, fun _ _ _ _ _ => none, Try.f76.results.toList, maskTab 18 [(0, 0x3), (1, 0x83), (2, 0x10), (3, 0x23), (4, 0x4020), (5, 0x20), (6, 0x10)], maskAt [(2, 1), (4, 3), (6, 4), (8, 8), (10, 12), (12, 15)]⟩
noncomputable def spec_E6 (b a : Int) (k : V -> Option R) : Option R := let d := decide (a < 1); bif d then k (V.int .i64 0) else bif (a != 0) then let c := IntKind.wrap .i64 (Int.tdiv b a); bif (a != 0) then let e := decide ((Int.tmod b a) < 0); bif e then let f := IntKind.wrap .i64 (c - 1); k (V.int .i64 f) else k (V.int .i64 c) else none else none
abbrev av_E6 (a b : Int) : List V := [V.int .i64 a, V.int .i64 b]
theorem spec_E6_eq (a b : Int) (k : V -> Option R) : fnK env_E6 Try.f76 (av_E6 a b) k = spec_E6 a b k := by kernel_rfl
theorem mk_E6 (h : ∀ (a b : Int), Real (av_E6 a b) -> spec_E6 a b some = some (V.int .i64 (m_E6 a b))) : G_E6 := goodHook1 fun l hp => by
  unfold hp_E6 at hp
  split at hp
  · rename_i d f
    exact fn_ok (fn := Try.f76) (c := bodyOf Try.f76) (E := env_E6) ⟨by kernel_rfl, goodNil, rfl⟩ rfl (by kernel_rfl) (by kernel_rfl) (by kernel_rfl) (loopsOK_of _ (by have e : loopsOf (bodyOf Try.f76) = [] := (by kernel_rfl); rw [e]; intro p hp; cases hp)) (fun hr => (spec_E6_eq d f some).trans (h d f hr))
  · cases hp
theorem au_E6 (a b : Int) : pre_E6 a b = true -> spec_E6 a b some = some ((fun (m : Int) => (V.int .i64 m)) (m_E6 a b)) := by
  repeat' (first | exact fun _ => rfl | exact fun h => absurd h (by decide) | refine bif_p (v := (fun (m : Int) => (V.int .i64 m))) ?_ ?_)
theorem good_E6_of : G_E6 := mk_E6 (fun _ _ _ => au_E6 _ _ (pt_E6 _ _))
noncomputable def env_H6 : Env R := ⟨Try.prog, callCons 75 c_F9 (callCons 76 c_E6 callNil), fun _ _ _ _ _ => none, Try.f44.results.toList, maskTab 33 [(0, 0x2), (1, 0xa), (2, 0x1a), (3, 0x30), (4, 0x4)], maskAt [(2, 2), (4, 6), (6, 18), (8, 30)]⟩
noncomputable def spec_H6 (a : SHeader) (k : V -> Option R) : Option R := let b := m_F9 a.Area.X1 a.TileW; let c := m_E6 a.Area.X0 a.TileW; let d := IntKind.wrap .i64 (b - c); let e := m_F9 a.Area.Y1 a.TileH; let f := m_E6 a.Area.Y0 a.TileH; let g := IntKind.wrap .i64 (e - f); let i := IntKind.wrap .i64 (d * g); k (V.int .i64 i)
abbrev av_H6 (a : SHeader) : List V := [(SHeader.v a)]
theorem spec_H6_eq (a : SHeader) (k : V -> Option R) : fnK env_H6 Try.f44 (av_H6 a) k = spec_H6 a k := by kernel_rfl
theorem mk_H6 (h_F9 : G_F9) (h_E6 : G_E6) (h : ∀ (a : SHeader), Real (av_H6 a) -> spec_H6 a some = some (V.int .i64 (m_H6 a))) : G_H6 := goodHook1 fun l hp => by
  unfold hp_H6 at hp
  split at hp
  · rename_i b d f g i j m
    exact fn_ok (fn := Try.f44) (c := bodyOf Try.f44) (E := env_H6) ⟨by kernel_rfl, (goodCons h_F9 (goodCons h_E6 goodNil)), rfl⟩ rfl (by kernel_rfl) (by kernel_rfl) (by kernel_rfl) (loopsOK_of _ (by have e : loopsOf (bodyOf Try.f44) = [] := (by kernel_rfl); rw [e]; intro p hp; cases hp)) (fun hr => (spec_H6_eq (SHeader.mk (SRect.mk b d f g) i j m) some).trans (h (SHeader.mk (SRect.mk b d f g) i j m) hr))
  · cases hp
theorem au_H6 (a : SHeader) : spec_H6 a some = some ((fun (m : Int) => (V.int .i64 m)) (m_H6 a)) := by
  repeat' (first | rfl | refine bif_t (v := (fun (m : Int) => (V.int .i64 m))) ?_ ?_)
theorem good_H6_of (h_F9 : G_F9) (h_E6 : G_E6) : G_H6 := mk_H6 h_F9 h_E6 (fun _ _ => au_H6 _)
noncomputable def env_J6 : Env R := ⟨Try.prog, callCons 37 c_I4 callNil, fun _ _ _ _ _ => none, Try.f45.results.toList, maskTab 17 [(0, 0x2), (1, 0x22), (2, 0x4), (3, 0x4)], maskAt [(2, 2), (4, 5), (6, 6)]⟩
noncomputable def spec_J6 (a : SRect) (k : V -> Option R) : Option R := let b := m_I4 a; bif (!b) then k (V.int .i64 0) else let c := IntKind.wrap .i64 (a.X1 - a.X0); let d := IntKind.wrap .i64 (a.Y1 - a.Y0); let e := IntKind.wrap .i64 (c * d); k (V.int .i64 e)
abbrev av_J6 (a : SRect) : List V := [(SRect.v a)]
theorem spec_J6_eq (a : SRect) (k : V -> Option R) : fnK env_J6 Try.f45 (av_J6 a) k = spec_J6 a k := by kernel_rfl
theorem mk_J6 (h_I4 : G_I4) (h : ∀ (a : SRect), Real (av_J6 a) -> spec_J6 a some = some (V.int .i64 (m_J6 a))) : G_J6 := goodHook1 fun l hp => by
  unfold hp_J6 at hp
  split at hp
  · rename_i b d f g
    exact fn_ok (fn := Try.f45) (c := bodyOf Try.f45) (E := env_J6) ⟨by kernel_rfl, (goodCons h_I4 goodNil), rfl⟩ rfl (by kernel_rfl) (by kernel_rfl) (by kernel_rfl) (loopsOK_of _ (by have e : loopsOf (bodyOf Try.f45) = [] := (by kernel_rfl); rw [e]; intro p hp; cases hp)) (fun hr => (spec_J6_eq (SRect.mk b d f g) some).trans (h (SRect.mk b d f g) hr))
  · cases hp
theorem au_J6 (a : SRect) : spec_J6 a some = some ((fun (m : Int) => (V.int .i64 m)) (m_J6 a)) := by
  repeat' (first | rfl | refine bif_t (v := (fun (m : Int) => (V.int .i64 m))) ?_ ?_)
theorem good_J6_of (h_I4 : G_I4) : G_J6 := mk_J6 h_I4 (fun _ _ => au_J6 _)
noncomputable def fuel_H4_0 (a : Int) (b : SHeader) : Nat := let c := (((List.length b.Components) : Nat) : Int); Int.toNat (c - a) + 1
noncomputable def step_H4_0 (c : SHeader) (a : Int) (again : Int -> Option R) (kn : Int -> Option R) (kr : V -> Option R) : Option R := let d := (((List.length c.Components) : Nat) : Int); bif (decide (a < d)) then bif (inR a (List.length c.Components)) then let e := List.getD c.Components (Int.toNat a) []; let b := SComponent.of e; let f := m_K0 b.Depth 1 16; bif ((!f) == false) then let g := m_K0 b.DX 1 4; bif ((!g) == false) then let i := m_K0 b.DY 1 4; bif ((!i) == false) then let j := m_H0 c.Area b.DX b.DY; let m := m_H8 j; bif m then kr (V.int .i64 12) else let o := IntKind.wrap .i64 (a + 1); again o else kr (V.int .i64 12) else kr (V.int .i64 12) else kr (V.int .i64 12) else none else kn a
noncomputable def loop_H4_0 (a : SHeader) : Nat -> Int -> (Int -> Option R) -> (V -> Option R) -> Option R
  | 0, _, _, _ => none
  | n + 1, b, kn, kr => step_H4_0 a b (fun c => loop_H4_0 a n c kn kr) kn kr
noncomputable def shape_H4_0 : ST := ⟨.undef :: .ptr 0 0 0 :: .undef :: .int .i64 :: unds 93 [], [(0, .var SHeader.sh false SHeader.ts)], 32⟩
noncomputable def st_H4_0 (a : SHeader) (b : Int) : St := shape_H4_0.put [.i b, .i a.Area.X0, .i a.Area.Y0, .i a.Area.X1, .i a.Area.Y1, .i a.TileW, .i a.TileH, .r a.Components]
noncomputable def hook_H4_0 : LoopG R := fun l kn _ kr => match l with
  | .i i :: .i a :: .i b :: .i c :: .i d :: .i e :: .i f :: .r g :: [] => loop_H4_0 (SHeader.mk (SRect.mk a b c d) e f g) (fuel_H4_0 i (SHeader.mk (SRect.mk a b c d) e f g)) i (fun j => kn (st_H4_0 (SHeader.mk (SRect.mk a b c d) e f g) j)) kr
  | _ => none
noncomputable def fuel_H4_2 (a : Int) (b : SHeader) : Nat := let c := (((List.length b.Components) : Nat) : Int); Int.toNat (c - a) + 1
noncomputable def step_H4_2 (b : SHeader) (a : Int) (again : Int -> Option R) (kn : Int -> Option R) (kr : V -> Option R) : Option R := let d := (((List.length b.Components) : Nat) : Int); bif (decide (a < d)) then bif (inR a (List.length b.Components)) then let e := List.getD b.Components (Int.toNat a) []; let c := SComponent.of e; let f := m_H0 b.Area c.DX c.DY; let g := m_J6 f; let i := decide (g > 1048576); bif i then kr (V.int .i64 5) else let j := IntKind.wrap .i64 (a + 1); again j else none else kn a
noncomputable def loop_H4_2 (a : SHeader) : Nat -> Int -> (Int -> Option R) -> (V -> Option R) -> Option R
  | 0, _, _, _ => none
  | n + 1, b, kn, kr => step_H4_2 a b (fun c => loop_H4_2 a n c kn kr) kn kr
noncomputable def shape_H4_2 : ST := ⟨.undef :: .ptr 0 0 0 :: unds 3 (.int .i64 :: unds 91 []), [(0, .var SHeader.sh false SHeader.ts)], 83⟩
noncomputable def st_H4_2 (a : SHeader) (b : Int) : St := shape_H4_2.put [.i b, .i a.Area.X0, .i a.Area.Y0, .i a.Area.X1, .i a.Area.Y1, .i a.TileW, .i a.TileH, .r a.Components]
noncomputable def hook_H4_2 : LoopG R := fun l kn _ kr => match l with
  | .i i :: .i a :: .i b :: .i c :: .i d :: .i e :: .i f :: .r g :: [] => loop_H4_2 (SHeader.mk (SRect.mk a b c d) e f g) (fuel_H4_2 i (SHeader.mk (SRect.mk a b c d) e f g)) i (fun j => kn (st_H4_2 (SHeader.mk (SRect.mk a b c d) e f g) j)) kr
  | _ => none
noncomputable def env_H4 : Env R := ⟨Try.prog, callCons 31 c_H8 (callCons 37 c_I4 (callCons 42 c_K0 (callCons 43 c_H0 (callCons 44 c_H6 (callCons 45 c_J6 callNil))))), fun id => bif Nat.beq id 0 then loopAlt shape_H4_0 hook_H4_0 loopNil else (fun id => bif Nat.beq id 2 then loopAlt shape_H4_2 hook_H4_2 loopNil else (fun _ _ _ _ _ => none) id) id, Try.f19.results.toList, maskTab 97 [(0, 0xff3cf00003e79e7002), (1, 0xff3cf0000400000002), (2, 0x4), (3, 0xff3cf000000000000a), (4, 0xff3cf000800000000a), (5, 0xff3cf000000000000a), (6, 0xff3cf000000000001a), (7, 0x1ff3cf000000000000a), (8, 0x4), (9, 0x8000000000000000002), (10, 0x4), (11, 0x22), (12, 0x100000000000000000022), (13, 0x22), (14, 0x62), (15, 0x1000000000000000000000022), (16, 0x4), (17, 0x4)], maskAt [(1, 32), (2, 2), (4, 30), (5, 83), (6, 31), (8, 36), (10, 75), (12, 41), (14, 48), (16, 74), (18, 78), (20, 81), (22, 82), (24, 87), (26, 109), (28, 92), (30, 99), (32, 108), (34, 112)]⟩
theorem step_H4_0_eq (a : SHeader) (c : Int) (kn : St -> Option R) (kx : Nat -> St -> Option R) (kr : V -> Option R) (n : Nat) (d : Int) :
    loopN env_H4 0 (loopAt Try.f19 0) (st_H4_0 a c) kn kx kr (n + 1) (st_H4_0 a d) =
    step_H4_0 a d (fun b => loopN env_H4 0 (loopAt Try.f19 0) (st_H4_0 a c) kn kx kr n (st_H4_0 a b)) (fun b => kn (st_H4_0 a b)) kr := by kernel_rfl
theorem loop_H4_0_eq (a : SHeader) (d : Int) (kn : St -> Option R) (kx : Nat -> St -> Option R) (kr : V -> Option R) : ∀ (n : Nat) (b : Int),
    loop_H4_0 a n b (fun c => kn (st_H4_0 a c)) kr = loopN env_H4 0 (loopAt Try.f19 0) (st_H4_0 a d) kn kx kr n (st_H4_0 a b)
  | 0, _ => rfl
  | n + 1, b => by
    rw [step_H4_0_eq, loop_H4_0]
    congr 1
    funext c
    exact loop_H4_0_eq a d kn kx kr n c
theorem goodl_H4_0 {rest} (h : GoodL (R := R) env_H4 0 (loopAt Try.f19 0) rest) : GoodL (R := R) env_H4 0 (loopAt Try.f19 0) (loopAlt shape_H4_0 hook_H4_0 rest) := by
  refine goodL_alt (fun l kn kx kr r h => ?_) h
  unfold hook_H4_0 at h
  split at h
  · rename_i a b c d e f g i
    exact ⟨_, (loop_H4_0_eq (SHeader.mk (SRect.mk b c d e) f g i) a kn kx kr _ a).symm.trans h⟩
  · cases h
theorem step_H4_2_eq (a : SHeader) (c : Int) (kn : St -> Option R) (kx : Nat -> St -> Option R) (kr : V -> Option R) (n : Nat) (d : Int) :
    loopN env_H4 2 (loopAt Try.f19 1) (st_H4_2 a c) kn kx kr (n + 1) (st_H4_2 a d) =
    step_H4_2 a d (fun b => loopN env_H4 2 (loopAt Try.f19 1) (st_H4_2 a c) kn kx kr n (st_H4_2 a b)) (fun b => kn (st_H4_2 a b)) kr := by kernel_rfl
theorem loop_H4_2_eq (a : SHeader) (d : Int) (kn : St -> Option R) (kx : Nat -> St -> Option R) (kr : V -> Option R) : ∀ (n : Nat) (b : Int),
    loop_H4_2 a n b (fun c => kn (st_H4_2 a c)) kr = loopN env_H4 2 (loopAt Try.f19 1) (st_H4_2 a d) kn kx kr n (st_H4_2 a b)
  | 0, _ => rfl
  | n + 1, b => by
    rw [step_H4_2_eq, loop_H4_2]
    congr 1
    funext c
    exact loop_H4_2_eq a d kn kx kr n c
theorem goodl_H4_2 {rest} (h : GoodL (R := R) env_H4 2 (loopAt Try.f19 1) rest) : GoodL (R := R) env_H4 2 (loopAt Try.f19 1) (loopAlt shape_H4_2 hook_H4_2 rest) := by
  refine goodL_alt (fun l kn kx kr r h => ?_) h
  unfold hook_H4_2 at h
  split at h
  · rename_i a b c d e f g i
    exact ⟨_, (loop_H4_2_eq (SHeader.mk (SRect.mk b c d e) f g i) a kn kx kr _ a).symm.trans h⟩
  · cases h
theorem good_H4_0 : GoodLoop (R := R) env_H4 0 (loopAt Try.f19 0) := goodL_loop (g := loopAlt shape_H4_0 hook_H4_0 loopNil) (fun _ _ _ _ => rfl) (goodl_H4_0 goodL_nil)
theorem good_H4_2 : GoodLoop (R := R) env_H4 2 (loopAt Try.f19 1) := goodL_loop (g := loopAlt shape_H4_2 hook_H4_2 loopNil) (fun _ _ _ _ => rfl) (goodl_H4_2 goodL_nil)
noncomputable def spec_H4 (a : SHeader) (k : V -> Option R) : Option R := let b := m_I4 a.Area; bif ((!b) == false) then let c := m_H8 a.Area; bif (c == false) then let d := m_K0 a.TileW 1 4096; bif ((!d) == false) then let e := m_K0 a.TileH 1 4096; bif ((!e) == false) then let f := (((List.length a.Components) : Nat) : Int); let g := m_K0 f 1 4; bif (!g) then k (V.int .i64 12) else loop_H4_0 a (fuel_H4_0 0 a) 0 (fun m => let i := m_H6 a; let j := decide (i > 1024); bif j then k (V.int .i64 5) else loop_H4_2 a (fuel_H4_2 0 a) 0 (fun o => k (V.int .i64 0)) k) k else k (V.int .i64 12) else k (V.int .i64 12) else k (V.int .i64 12) else k (V.int .i64 12)
abbrev av_H4 (a : SHeader) : List V := [(SHeader.v a)]
theorem spec_H4_eq (a : SHeader) (k : V -> Option R) : fnK env_H4 Try.f19 (av_H4 a) k = spec_H4 a k := by kernel_rfl
theorem mk_H4 (h_H8 : G_H8) (h_I4 : G_I4) (h_K0 : G_K0) (h_H0 : G_H0) (h_H6 : G_H6) (h_J6 : G_J6) (h : ∀ (a : SHeader), Real (av_H4 a) -> spec_H4 a some = some (V.int .i64 (m_H4 a))) : G_H4 := goodHook1 fun l hp => by
  unfold hp_H4 at hp
  split at hp
  · rename_i b d f g i j m
    exact fn_ok (fn := Try.f19) (c := bodyOf Try.f19) (E := env_H4) ⟨by kernel_rfl, (goodCons h_H8 (goodCons h_I4 (goodCons h_K0 (goodCons h_H0 (goodCons h_H6 (goodCons h_J6 goodNil)))))), rfl⟩ rfl (by kernel_rfl) (by kernel_rfl) (by kernel_rfl) (loopsOK_of _ (by have e : loopsOf (bodyOf Try.f19) = [(0, loopAt Try.f19 0), (2, loopAt Try.f19 1)] := (by kernel_rfl); rw [e]; simp only [List.forall_mem_cons, List.not_mem_nil, false_implies, implies_true, and_true]; exact ⟨good_H4_0, good_H4_2⟩)) (fun hr => (spec_H4_eq (SHeader.mk (SRect.mk b d f g) i j m) some).trans (h (SHeader.mk (SRect.mk b d f g) i j m) hr))
  · cases hp
noncomputable def env_E0 : Env R := ⟨Try.prog, callCons 31 c_H8 callNil, fun _ _ _ _ _ => none, Try.f32.results.toList, maskTab 31 [(0, 0x1c), (1, 0x30), (2, 0x10000030), (3, 0x10), (4, 0x10)], maskAt [(2, 3), (4, 26), (6, 28), (8, 30)]⟩
noncomputable def spec_E0 (a b : SRect) (k : V -> Option R) : Option R := let c : Int := (bif (decide (b.X0 > a.X0)) then b.X0 else a.X0); let d : Int := (bif (decide (b.Y0 > a.Y0)) then b.Y0 else a.Y0); let e : Int := (bif (decide (b.X1 < a.X1)) then b.X1 else a.X1); let f : Int := (bif (decide (b.Y1 < a.Y1)) then b.Y1 else a.Y1); let g := m_H8 (SRect.mk c d e f); bif g then k (V.agg [(V.int .i64 0), (V.int .i64 0), (V.int .i64 0), (V.int .i64 0)]) else k (V.agg [V.int .i64 c, V.int .i64 d, V.int .i64 e, V.int .i64 f])
abbrev av_E0 (a b : SRect) : List V := [(SRect.v a), (SRect.v b)]
theorem spec_E0_eq (a b : SRect) (k : V -> Option R) : fnK env_E0 Try.f32 (av_E0 a b) k = spec_E0 a b k := by kernel_rfl
theorem mk_E0 (h_H8 : G_H8) (h : ∀ (a b : SRect), Real (av_E0 a b) -> spec_E0 a b some = some (SRect.v (m_E0 a b))) : G_E0 := goodHook1 fun l hp => by
  unfold hp_E0 at hp
  split at hp
  · rename_i d f g i j m o q
    exact fn_ok (fn := Try.f32) (c := bodyOf Try.f32) (E := env_E0) ⟨by kernel_rfl, (goodCons h_H8 goodNil), rfl⟩ rfl (by kernel_rfl) (by kernel_rfl) (by kernel_rfl) (loopsOK_of _ (by have e : loopsOf (bodyOf Try.f32) = [] := (by kernel_rfl); rw [e]; intro p hp; cases hp)) (fun hr => (spec_E0_eq (SRect.mk d f g i) (SRect.mk j m o q) some).trans (h (SRect.mk d f g i) (SRect.mk j m o q) hr))
  · cases hp
theorem au_E0 (a b : SRect) : spec_E0 a b some = some ((fun (m : SRect) => (SRect.v m)) (m_E0 a b)) := by
  repeat' (first | rfl | refine bif_t (v := (fun (m : SRect) => (SRect.v m))) ?_ ?_)
theorem good_E0_of (h_H8 : G_H8) : G_E0 := mk_E0 h_H8 (fun _ _ _ => au_E0 _ _)
noncomputable def fuel_H5_2 (c d e a f g b : Int) (i : SRect) (j : Rows) : Nat := Int.toNat (a - b) + 1
noncomputable def step_H5_2 (b c u f v e : Int) (g : SRect) (a : Int) (d : Rows) (again : Int -> Rows -> Option R) (kn : Int -> Rows -> Option R) : Option R := bif (decide (a < f)) then let i := IntKind.wrap .i64 (a * b); let j := IntKind.wrap .i64 (e * c); let m := IntKind.wrap .i64 (a * b); let o := IntKind.wrap .i64 (m + b); let p := IntKind.wrap .i64 (e * c); let q := IntKind.wrap .i64 (p + c); let r := m_E0 g (SRect.mk i j o q); bif (roomOK ((List.length d) + (1 : Nat)) 32) then let s := d ++ [(SRect.row r)]; let t := IntKind.wrap .i64 (a + 1); again t s else none else kn a d
noncomputable def loop_H5_2 (a b c d e f : Int) (g : SRect) : Nat -> Int -> Rows -> (Int -> Rows -> Option R) -> Option R
  | 0, _, _, _ => none
  | n + 1, i, j, kn => step_H5_2 a b c d e f g i j (fun m o => loop_H5_2 a b c d e f g n m o kn) kn
noncomputable def shape_H5_2 : ST := ⟨.undef :: .int .i64 :: .int .i64 :: .ptr 0 0 0 :: unds 3 (.int .i64 :: .int .i64 :: .undef :: .int .i64 :: .vs 50 :: .int .i64 :: .int .i64 :: unds 74 []), [(0, .var SRect.sh false SRect.ts), (50, .vec SRect.sh false)], 59⟩
noncomputable def st_H5_2 (b c d e f g : Int) (a : SRect) (i : Int) (j : Rows) : St := shape_H5_2.put [.i b, .i c, .i d, .i e, .i f, .i g, .i i, .i a.X0, .i a.Y0, .i a.X1, .i a.Y1, .r j]
noncomputable def hook_H5_2 : LoopG R := fun l kn _ _ => match l with
  | .i a :: .i b :: .i c :: .i d :: .i e :: .i f :: .i o :: .i g :: .i i :: .i j :: .i m :: .r p :: [] => loop_H5_2 a b c d e f (SRect.mk g i j m) (fuel_H5_2 a b c d e f o (SRect.mk g i j m) p) o p (fun q r => kn (st_H5_2 a b c d e f (SRect.mk g i j m) q r))
  | _ => none
noncomputable def fuel_H5_0 (c d e f a b : Int) (g : SRect) (i : Rows) : Nat := Int.toNat (a - b) + 1
noncomputable def step_H5_0 (e f b g c : Int) (i : SRect) (a : Int) (d : Rows) (again : Int -> Rows -> Option R) (kn : Int -> Rows -> Option R) : Option R := bif (decide (a < c)) then loop_H5_2 e f b g c a i (fuel_H5_2 e f b g c a b i d) b d (fun o j => let m := IntKind.wrap .i64 (a + 1); again m j) else kn a d
noncomputable def loop_H5_0 (a b c d e : Int) (f : SRect) : Nat -> Int -> Rows -> (Int -> Rows -> Option R) -> Option R
  | 0, _, _, _ => none
  | n + 1, g, i, kn => step_H5_0 a b c d e f g i (fun j m => loop_H5_0 a b c d e f n j m kn) kn
noncomputable def shape_H5_0 : ST := ⟨.undef :: .int .i64 :: .int .i64 :: .ptr 0 0 0 :: unds 3 (.int .i64 :: .int .i64 :: .undef :: .int .i64 :: .vs 50 :: .int .i64 :: unds 75 []), [(0, .var SRect.sh false SRect.ts), (50, .vec SRect.sh false)], 51⟩
noncomputable def st_H5_0 (b c d e f : Int) (a : SRect) (g : Int) (i : Rows) : St := shape_H5_0.put [.i b, .i c, .i d, .i e, .i f, .i g, .i a.X0, .i a.Y0, .i a.X1, .i a.Y1, .r i]
noncomputable def hook_H5_0 : LoopG R := fun l kn _ _ => match l with
  | .i a :: .i b :: .i c :: .i d :: .i e :: .i m :: .i f :: .i g :: .i i :: .i j :: .r o :: [] => loop_H5_0 a b c d e (SRect.mk f g i j) (fuel_H5_0 a b c d e m (SRect.mk f g i j) o) m o (fun p q => kn (st_H5_0 a b c d e (SRect.mk f g i j) p q))
  | _ => none
noncomputable def env_H5 : Env R := ⟨Try.prog, callCons 31 c_H8 (callCons 32 c_E0 (callCons 37 c_I4 (callCons 75 c_F9 (callCons 76 c_E6 callNil)))), fun id => bif Nat.beq id 2 then loopAlt shape_H5_2 hook_H5_2 loopNil else (fun id => bif Nat.beq id 0 then loopAlt shape_H5_0 hook_H5_0 loopNil else (fun _ _ _ _ _ => none) id) id, Try.f46.results.toList, maskTab 88 [(0, 0xccc000e), (1, 0x1000000e), (2, 0x40), (3, 0x8e), (4, 0x18e), (5, 0x38e), (6, 0x78e), (7, 0x1000000000078e), (8, 0x40), (9, 0xf8e), (10, 0x1d8e), (11, 0x100000000001d8e), (12, 0x1d8e), (13, 0x3d8e), (14, 0x4000000000003d8e), (15, 0x3d8e), (16, 0x3d8e), (17, 0x40)], maskAt [(1, 50), (2, 2), (4, 17), (5, 59), (6, 18), (8, 23), (10, 28), (12, 33), (14, 38), (16, 46), (18, 47), (20, 48), (22, 54), (24, 92), (26, 57), (28, 63), (30, 89), (32, 66), (34, 95)]⟩
theorem step_H5_2_eq (a b c d e f : Int) (g : SRect) (m : Int) (o : Rows) (kn : St -> Option R) (kx : Nat -> St -> Option R) (kr : V -> Option R) (n : Nat) (p : Int) (q : Rows) :
    loopN env_H5 2 (loopAt Try.f46 1) (st_H5_2 a b c d e f g m o) kn kx kr (n + 1) (st_H5_2 a b c d e f g p q) =
    step_H5_2 a b c d e f g p q (fun i j => loopN env_H5 2 (loopAt Try.f46 1) (st_H5_2 a b c d e f g m o) kn kx kr n (st_H5_2 a b c d e f g i j)) (fun i j => kn (st_H5_2 a b c d e f g i j)) := by kernel_rfl
theorem loop_H5_2_eq (a b c d e f : Int) (g : SRect) (p : Int) (q : Rows) (kn : St -> Option R) (kx : Nat -> St -> Option R) (kr : V -> Option R) : ∀ (n : Nat) (i : Int) (j : Rows),
    loop_H5_2 a b c d e f g n i j (fun m o => kn (st_H5_2 a b c d e f g m o)) = loopN env_H5 2 (loopAt Try.f46 1) (st_H5_2 a b c d e f g p q) kn kx kr n (st_H5_2 a b c d e f g i j)
  | 0, _, _ => rfl
  | n + 1, i, j => by
    rw [step_H5_2_eq, loop_H5_2]
    congr 1
    funext m o
    exact loop_H5_2_eq a b c d e f g p q kn kx kr n m o
theorem goodl_H5_2 {rest} (h : GoodL (R := R) env_H5 2 (loopAt Try.f46 1) rest) : GoodL (R := R) env_H5 2 (loopAt Try.f46 1) (loopAlt shape_H5_2 hook_H5_2 rest) := by
  refine goodL_alt (fun l kn kx kr r h => ?_) h
  unfold hook_H5_2 at h
  split at h
  · rename_i c d e f g i a j m o p b
    exact ⟨_, (loop_H5_2_eq c d e f g i (SRect.mk j m o p) a b kn kx kr _ a b).symm.trans h⟩
  · cases h
theorem step_H5_0_eq (a b c d e : Int) (f : SRect) (j : Int) (m : Rows) (kn : St -> Option R) (kx : Nat -> St -> Option R) (kr : V -> Option R) (n : Nat) (o : Int) (p : Rows) :
    loopN env_H5 0 (loopAt Try.f46 0) (st_H5_0 a b c d e f j m) kn kx kr (n + 1) (st_H5_0 a b c d e f o p) =
    step_H5_0 a b c d e f o p (fun g i => loopN env_H5 0 (loopAt Try.f46 0) (st_H5_0 a b c d e f j m) kn kx kr n (st_H5_0 a b c d e f g i)) (fun g i => kn (st_H5_0 a b c d e f g i)) := by kernel_rfl
theorem loop_H5_0_eq (a b c d e : Int) (f : SRect) (o : Int) (p : Rows) (kn : St -> Option R) (kx : Nat -> St -> Option R) (kr : V -> Option R) : ∀ (n : Nat) (g : Int) (i : Rows),
    loop_H5_0 a b c d e f n g i (fun j m => kn (st_H5_0 a b c d e f j m)) = loopN env_H5 0 (loopAt Try.f46 0) (st_H5_0 a b c d e f o p) kn kx kr n (st_H5_0 a b c d e f g i)
  | 0, _, _ => rfl
  | n + 1, g, i => by
    rw [step_H5_0_eq, loop_H5_0]
    congr 1
    funext j m
    exact loop_H5_0_eq a b c d e f o p kn kx kr n j m
theorem goodl_H5_0 {rest} (h : GoodL (R := R) env_H5 0 (loopAt Try.f46 0) rest) : GoodL (R := R) env_H5 0 (loopAt Try.f46 0) (loopAlt shape_H5_0 hook_H5_0 rest) := by
  refine goodL_alt (fun l kn kx kr r h => ?_) h
  unfold hook_H5_0 at h
  split at h
  · rename_i c d e f g a i j m o b
    exact ⟨_, (loop_H5_0_eq c d e f g (SRect.mk i j m o) a b kn kx kr _ a b).symm.trans h⟩
  · cases h
theorem good_H5_0 : GoodLoop (R := R) env_H5 0 (loopAt Try.f46 0) := goodL_loop (g := loopAlt shape_H5_0 hook_H5_0 loopNil) (fun _ _ _ _ => rfl) (goodl_H5_0 goodL_nil)
theorem good_H5_2 : GoodLoop (R := R) env_H5 2 (loopAt Try.f46 1) := goodL_loop (g := loopAlt shape_H5_2 hook_H5_2 loopNil) (fun _ _ _ _ => rfl) (goodl_H5_2 goodL_nil)
noncomputable def spec_H5 (a : SRect) (b c : Int) (k : V -> Option R) : Option R := let i := m_I4 a; bif ((!i) == false) then let j := m_H8 a; let m := decide (b < 1); let o : Bool := (bif j then true else m); let p := decide (c < 1); let q : Bool := (bif o then true else p); bif q then k (V.data SRect.sh []) else let d := m_E6 a.X0 b; let e := m_F9 a.X1 b; let f := m_E6 a.Y0 c; let g := m_F9 a.Y1 c; let r := IntKind.wrap .i64 (e - d); let s := IntKind.wrap .i64 (g - f); let t := IntKind.wrap .i64 (r * s); let u := decide (t > 65536); bif u then k (V.data SRect.sh []) else loop_H5_0 b c d e g a (fuel_H5_0 b c d e g f a []) f [] (fun w v => k (V.data SRect.sh v)) else k (V.data SRect.sh [])
abbrev av_H5 (a : SRect) (b c : Int) : List V := [(SRect.v a), V.int .i64 b, V.int .i64 c]
theorem spec_H5_eq (a : SRect) (b c : Int) (k : V -> Option R) : fnK env_H5 Try.f46 (av_H5 a b c) k = spec_H5 a b c k := by kernel_rfl
theorem mk_H5 (h_H8 : G_H8) (h_E0 : G_E0) (h_I4 : G_I4) (h_F9 : G_F9) (h_E6 : G_E6) (h : ∀ (a : SRect) (b d : Int), Real (av_H5 a b d) -> spec_H5 a b d some = some (V.data SRect.sh (m_H5 a b d))) : G_H5 := goodHook1 fun l hp => by
  unfold hp_H5 at hp
  split at hp
  · rename_i f g i j m o
    exact fn_ok (fn := Try.f46) (c := bodyOf Try.f46) (E := env_H5) ⟨by kernel_rfl, (goodCons h_H8 (goodCons h_E0 (goodCons h_I4 (goodCons h_F9 (goodCons h_E6 goodNil))))), rfl⟩ rfl (by kernel_rfl) (by kernel_rfl) (by kernel_rfl) (loopsOK_of _ (by have e : loopsOf (bodyOf Try.f46) = [(0, loopAt Try.f46 0), (2, loopAt Try.f46 1)] := (by kernel_rfl); rw [e]; simp only [List.forall_mem_cons, List.not_mem_nil, false_implies, implies_true, and_true]; exact ⟨good_H5_0, good_H5_2⟩)) (fun hr => (spec_H5_eq (SRect.mk f g i j) m o some).trans (h (SRect.mk f g i j) m o hr))
  · cases hp
noncomputable def env_I3 : Env R := ⟨Try.prog, callCons 19 c_H4 (callCons 46 c_H5 callNil), fun _ _ _ _ _ => none, Try.f20.results.toList, maskTab 13 [(0, 0x2), (1, 0x22), (2, 0x4), (3, 0x4)], maskAt [(2, 2), (4, 5), (6, 6)]⟩
noncomputable def spec_I3 (a : SHeader) (k : V -> Option R) : Option R := let b := m_H4 a; bif (b != 0) then k (V.data SRect.sh []) else let c := m_H5 a.Area a.TileW a.TileH; k (V.data SRect.sh c)
abbrev av_I3 (a : SHeader) : List V := [(SHeader.v a)]
theorem spec_I3_eq (a : SHeader) (k : V -> Option R) : fnK env_I3 Try.f20 (av_I3 a) k = spec_I3 a k := by kernel_rfl
theorem mk_I3 (h_H4 : G_H4) (h_H5 : G_H5) (h : ∀ (a : SHeader), Real (av_I3 a) -> spec_I3 a some = some (V.data SRect.sh (m_I3 a))) : G_I3 := goodHook1 fun l hp => by
  unfold hp_I3 at hp
  split at hp
  · rename_i b d f g i j m
    exact fn_ok (fn := Try.f20) (c := bodyOf Try.f20) (E := env_I3) ⟨by kernel_rfl, (goodCons h_H4 (goodCons h_H5 goodNil)), rfl⟩ rfl (by kernel_rfl) (by kernel_rfl) (by kernel_rfl) (loopsOK_of _ (by have e : loopsOf (bodyOf Try.f20) = [] := (by kernel_rfl); rw [e]; intro p hp; cases hp)) (fun hr => (spec_I3_eq (SHeader.mk (SRect.mk b d f g) i j m) some).trans (h (SHeader.mk (SRect.mk b d f g) i j m) hr))
  · cases hp
theorem au_I3 (a : SHeader) : spec_I3 a some = some ((fun (m : Rows) => (V.data SRect.sh m)) (m_I3 a)) := by
  repeat' (first | rfl | refine bif_t (v := (fun (m : Rows) => (V.data SRect.sh m))) ?_ ?_)
theorem good_I3_of (h_H4 : G_H4) (h_H5 : G_H5) : G_I3 := mk_I3 h_H4 h_H5 (fun _ _ => au_I3 _)
noncomputable def env_I1 : Env R := ⟨Try.prog, callNil, fun _ _ _ _ _ => none, Try.f47.results.toList, maskTab 31 [(0, 0x39ce7382), (1, 0x4)], maskAt [(2, 2)]⟩
noncomputable def spec_I1 (a : SParams) (k : V -> Option R) : Option R := let b := decide (a.Kernel >= 1); let c := decide (a.Kernel <= 3); let d : Bool := (bif b then c else false); let e := decide (a.Color >= 0); let f : Bool := (bif d then e else false); let g := decide (a.Color <= 2); let i : Bool := (bif f then g else false); let j := decide (a.Order >= 1); let m : Bool := (bif i then j else false); let o := decide (a.Order <= 5); let p : Bool := (bif m then o else false); k (V.bool p)
abbrev av_I1 (a : SParams) : List V := [(SParams.v a)]
theorem spec_I1_eq (a : SParams) (k : V -> Option R) : fnK env_I1 Try.f47 (av_I1 a) k = spec_I1 a k := by kernel_rfl
theorem mk_I1 (h : ∀ (a : SParams), Real (av_I1 a) -> spec_I1 a some = some (V.bool (m_I1 a))) : G_I1 := goodHook1 fun l hp => by
  unfold hp_I1 at hp
  split at hp
  · rename_i b d f g i j m o q r s t u v w y z A B
    exact fn_ok (fn := Try.f47) (c := bodyOf Try.f47) (E := env_I1) ⟨by kernel_rfl, goodNil, rfl⟩ rfl (by kernel_rfl) (by kernel_rfl) (by kernel_rfl) (loopsOK_of _ (by have e : loopsOf (bodyOf Try.f47) = [] := (by kernel_rfl); rw [e]; intro p hp; cases hp)) (fun hr => (spec_I1_eq (SParams.mk b d f g i j m o (SMode.mk q r s t u) v w y z A B) some).trans (h (SParams.mk b d f g i j m o (SMode.mk q r s t u) v w y z A B) hr))
  · cases hp
theorem au_I1 (a : SParams) : spec_I1 a some = some ((fun (m : Bool) => (V.bool m)) (m_I1 a)) := by
  repeat' (first | rfl | refine bif_t (v := (fun (m : Bool) => (V.bool m))) ?_ ?_)
theorem good_I1_of : G_I1 := mk_I1 (fun _ _ => au_I1 _)
noncomputable def fuel_G0_0 (a : Int) (b : SParams) : Nat := let c := (((List.length b.Steps) : Nat) : Int); Int.toNat (c - a) + 1
noncomputable def step_G0_0 (b : SParams) (a : Int) (again : Int -> Option R) (kn : Int -> Option R) (kr : V -> Option R) : Option R := let c := (((List.length b.Steps) : Nat) : Int); bif (decide (a < c)) then bif (inR a (List.length b.Steps)) then let d := List.getD b.Steps (Int.toNat a) []; let e := V.toInt (List.getD d 0 V.undef); let f := m_K0 e 1 65536; bif (!f) then kr (V.bool false) else let g := IntKind.wrap .i64 (a + 1); again g else none else kn a
noncomputable def loop_G0_0 (a : SParams) : Nat -> Int -> (Int -> Option R) -> (V -> Option R) -> Option R
  | 0, _, _, _ => none
  | n + 1, b, kn, kr => step_G0_0 a b (fun c => loop_G0_0 a n c kn kr) kn kr
noncomputable def shape_G0_0 : ST := ⟨.undef :: .ptr 0 0 0 :: .undef :: .int .i64 :: unds 99 [], [(0, .var SParams.sh false SParams.ts)], 48⟩
noncomputable def st_G0_0 (a : SParams) (b : Int) : St := shape_G0_0.put [.i b, .i a.Kernel, .i a.Levels, .i a.Color, .i a.BlockX, .i a.BlockY, .r a.Precincts, .i a.Order, .i a.Layers, .b a.Mode.Bypass, .b a.Mode.Restart, .b a.Mode.Reset, .b a.Mode.Causal, .b a.Mode.Symbols, .b a.Divide, .b a.Sync, .b a.Fence, .r a.Steps, .i a.Dead, .i a.Shift]
noncomputable def hook_G0_0 : LoopG R := fun l kn _ kr => match l with
  | .i y :: .i a :: .i b :: .i c :: .i d :: .i e :: .r f :: .i g :: .i i :: .b j :: .b m :: .b o :: .b p :: .b q :: .b r :: .b s :: .b t :: .r u :: .i v :: .i w :: [] => loop_G0_0 (SParams.mk a b c d e f g i (SMode.mk j m o p q) r s t u v w) (fuel_G0_0 y (SParams.mk a b c d e f g i (SMode.mk j m o p q) r s t u v w)) y (fun z => kn (st_G0_0 (SParams.mk a b c d e f g i (SMode.mk j m o p q) r s t u v w) z)) kr
  | _ => none
noncomputable def fuel_G0_2 (a : Int) (b : SParams) : Nat := let c := (((List.length b.Precincts) : Nat) : Int); Int.toNat (c - a) + 1
noncomputable def step_G0_2 (b : SParams) (a : Int) (again : Int -> Option R) (kn : Int -> Option R) (kr : V -> Option R) : Option R := let d := (((List.length b.Precincts) : Nat) : Int); bif (decide (a < d)) then bif (inR a (List.length b.Precincts)) then let e := List.getD b.Precincts (Int.toNat a) []; let f := V.toInt (List.getD e 0 V.undef); let g : Int := (bif (decide (1 < a)) then 1 else a); let c := m_K0 f g 12; bif ((inR a (List.length b.Precincts)) || !((!c) == false)) then let i := List.getD b.Precincts (Int.toNat a) []; let j := V.toInt (List.getD i 1 V.undef); bif ((!c) == false) then let m : Int := (bif (decide (1 < a)) then 1 else a); let o := m_K0 j m 12; bif (!o) then kr (V.bool false) else let p := IntKind.wrap .i64 (a + 1); again p else kr (V.bool false) else none else none else kn a
noncomputable def loop_G0_2 (a : SParams) : Nat -> Int -> (Int -> Option R) -> (V -> Option R) -> Option R
  | 0, _, _, _ => none
  | n + 1, b, kn, kr => step_G0_2 a b (fun c => loop_G0_2 a n c kn kr) kn kr
noncomputable def shape_G0_2 : ST := ⟨.undef :: .ptr 0 0 0 :: .undef :: .undef :: .int .i64 :: unds 98 [], [(0, .var SParams.sh false SParams.ts)], 82⟩
noncomputable def st_G0_2 (a : SParams) (b : Int) : St := shape_G0_2.put [.i b, .i a.Kernel, .i a.Levels, .i a.Color, .i a.BlockX, .i a.BlockY, .r a.Precincts, .i a.Order, .i a.Layers, .b a.Mode.Bypass, .b a.Mode.Restart, .b a.Mode.Reset, .b a.Mode.Causal, .b a.Mode.Symbols, .b a.Divide, .b a.Sync, .b a.Fence, .r a.Steps, .i a.Dead, .i a.Shift]
noncomputable def hook_G0_2 : LoopG R := fun l kn _ kr => match l with
  | .i y :: .i a :: .i b :: .i c :: .i d :: .i e :: .r f :: .i g :: .i i :: .b j :: .b m :: .b o :: .b p :: .b q :: .b r :: .b s :: .b t :: .r u :: .i v :: .i w :: [] => loop_G0_2 (SParams.mk a b c d e f g i (SMode.mk j m o p q) r s t u v w) (fuel_G0_2 y (SParams.mk a b c d e f g i (SMode.mk j m o p q) r s t u v w)) y (fun z => kn (st_G0_2 (SParams.mk a b c d e f g i (SMode.mk j m o p q) r s t u v w) z)) kr
  | _ => none
noncomputable def env_G0 : Env R := ⟨Try.prog, callCons 42 c_K0 callNil, fun id => bif Nat.beq id 0 then loopAlt shape_G0_0 hook_G0_0 loopNil else (fun id => bif Nat.beq id 2 then loopAlt shape_G0_2 hook_G0_2 loopNil else (fun _ _ _ _ _ => none) id) id, Try.f48.results.toList, maskTab 103 [(0, 0x3ff00000000000ff3cf3cf3c02), (1, 0x3ff00000000001000000000002), (2, 0x4), (3, 0x3ff0000000000000000000000a), (4, 0x3ff0000000002000000000000a), (5, 0x3ff0000000000000000000000a), (6, 0x3ff0000000400000000000000a), (7, 0x4), (8, 0x3ff00000040000000000000002), (9, 0x4), (10, 0x3ff00002000000000000000002), (11, 0x4), (12, 0x3ff00000000000000000000012), (13, 0x3ff00040000000000000000012), (14, 0x3ff00000000000000000000012), (15, 0x7ff00000000000000000000012), (16, 0x4), (17, 0x4)], maskAt [(1, 48), (2, 2), (4, 46), (5, 82), (6, 47), (8, 52), (10, 65), (12, 57), (14, 64), (16, 68), (18, 72), (20, 73), (22, 80), (24, 81), (26, 86), (28, 114), (30, 91), (32, 113), (34, 117)]⟩
theorem step_G0_0_eq (a : SParams) (c : Int) (kn : St -> Option R) (kx : Nat -> St -> Option R) (kr : V -> Option R) (n : Nat) (d : Int) :
    loopN env_G0 0 (loopAt Try.f48 0) (st_G0_0 a c) kn kx kr (n + 1) (st_G0_0 a d) =
    step_G0_0 a d (fun b => loopN env_G0 0 (loopAt Try.f48 0) (st_G0_0 a c) kn kx kr n (st_G0_0 a b)) (fun b => kn (st_G0_0 a b)) kr := by kernel_rfl
theorem loop_G0_0_eq (a : SParams) (d : Int) (kn : St -> Option R) (kx : Nat -> St -> Option R) (kr : V -> Option R) : ∀ (n : Nat) (b : Int),
    loop_G0_0 a n b (fun c => kn (st_G0_0 a c)) kr = loopN env_G0 0 (loopAt Try.f48 0) (st_G0_0 a d) kn kx kr n (st_G0_0 a b)
  | 0, _ => rfl
  | n + 1, b => by
    rw [step_G0_0_eq, loop_G0_0]
    congr 1
    funext c
    exact loop_G0_0_eq a d kn kx kr n c
theorem goodl_G0_0 {rest} (h : GoodL (R := R) env_G0 0 (loopAt Try.f48 0) rest) : GoodL (R := R) env_G0 0 (loopAt Try.f48 0) (loopAlt shape_G0_0 hook_G0_0 rest) := by
  refine goodL_alt (fun l kn kx kr r h => ?_) h
  unfold hook_G0_0 at h
  split at h
  · rename_i a b c d e f g i j m o p q s t u v w y z
    exact ⟨_, (loop_G0_0_eq (SParams.mk b c d e f g i j (SMode.mk m o p q s) t u v w y z) a kn kx kr _ a).symm.trans h⟩
  · cases h
theorem step_G0_2_eq (a : SParams) (c : Int) (kn : St -> Option R) (kx : Nat -> St -> Option R) (kr : V -> Option R) (n : Nat) (d : Int) :
    loopN env_G0 2 (loopAt Try.f48 1) (st_G0_2 a c) kn kx kr (n + 1) (st_G0_2 a d) =
    step_G0_2 a d (fun b => loopN env_G0 2 (loopAt Try.f48 1) (st_G0_2 a c) kn kx kr n (st_G0_2 a b)) (fun b => kn (st_G0_2 a b)) kr := by kernel_rfl
theorem loop_G0_2_eq (a : SParams) (d : Int) (kn : St -> Option R) (kx : Nat -> St -> Option R) (kr : V -> Option R) : ∀ (n : Nat) (b : Int),
    loop_G0_2 a n b (fun c => kn (st_G0_2 a c)) kr = loopN env_G0 2 (loopAt Try.f48 1) (st_G0_2 a d) kn kx kr n (st_G0_2 a b)
  | 0, _ => rfl
  | n + 1, b => by
    rw [step_G0_2_eq, loop_G0_2]
    congr 1
    funext c
    exact loop_G0_2_eq a d kn kx kr n c
theorem goodl_G0_2 {rest} (h : GoodL (R := R) env_G0 2 (loopAt Try.f48 1) rest) : GoodL (R := R) env_G0 2 (loopAt Try.f48 1) (loopAlt shape_G0_2 hook_G0_2 rest) := by
  refine goodL_alt (fun l kn kx kr r h => ?_) h
  unfold hook_G0_2 at h
  split at h
  · rename_i a b c d e f g i j m o p q s t u v w y z
    exact ⟨_, (loop_G0_2_eq (SParams.mk b c d e f g i j (SMode.mk m o p q s) t u v w y z) a kn kx kr _ a).symm.trans h⟩
  · cases h
theorem good_G0_0 : GoodLoop (R := R) env_G0 0 (loopAt Try.f48 0) := goodL_loop (g := loopAlt shape_G0_0 hook_G0_0 loopNil) (fun _ _ _ _ => rfl) (goodl_G0_0 goodL_nil)
theorem good_G0_2 : GoodLoop (R := R) env_G0 2 (loopAt Try.f48 1) := goodL_loop (g := loopAlt shape_G0_2 hook_G0_2 loopNil) (fun _ _ _ _ => rfl) (goodl_G0_2 goodL_nil)
noncomputable def spec_G0 (a : SParams) (k : V -> Option R) : Option R := let b := m_K0 a.Levels 0 5; bif ((!b) == false) then let c := m_K0 a.BlockX 2 6; bif ((!c) == false) then let d := m_K0 a.BlockY 2 6; bif ((!d) == false) then let e := m_K0 a.Layers 1 16; bif ((!e) == false) then let f := m_K0 a.Dead 8 32; bif ((!f) == false) then let g := m_K0 a.Shift 0 30; bif ((!g) == false) then let i := (((List.length a.Steps) : Nat) : Int); let j := IntKind.wrap .i64 (3 * a.Levels); let m := IntKind.wrap .i64 (j + 1); bif (i != m) then k (V.bool false) else loop_G0_0 a (fuel_G0_0 0 a) 0 (fun r => let o := (((List.length a.Precincts) : Nat) : Int); bif (o == 0) then k (V.bool true) else let p := (((List.length a.Precincts) : Nat) : Int); let q := IntKind.wrap .i64 (a.Levels + 1); bif (p != q) then k (V.bool false) else loop_G0_2 a (fuel_G0_2 0 a) 0 (fun s => k (V.bool true)) k) k else k (V.bool false) else k (V.bool false) else k (V.bool false) else k (V.bool false) else k (V.bool false) else k (V.bool false)
abbrev av_G0 (a : SParams) : List V := [(SParams.v a)]
theorem spec_G0_eq (a : SParams) (k : V -> Option R) : fnK env_G0 Try.f48 (av_G0 a) k = spec_G0 a k := by kernel_rfl
theorem mk_G0 (h_K0 : G_K0) (h : ∀ (a : SParams), Real (av_G0 a) -> spec_G0 a some = some (V.bool (m_G0 a))) : G_G0 := goodHook1 fun l hp => by
  unfold hp_G0 at hp
  split at hp
  · rename_i b d f g i j m o p q r s t u v w y z A
    exact fn_ok (fn := Try.f48) (c := bodyOf Try.f48) (E := env_G0) ⟨by kernel_rfl, (goodCons h_K0 goodNil), rfl⟩ rfl (by kernel_rfl) (by kernel_rfl) (by kernel_rfl) (loopsOK_of _ (by have e : loopsOf (bodyOf Try.f48) = [(0, loopAt Try.f48 0), (2, loopAt Try.f48 1)] := (by kernel_rfl); rw [e]; simp only [List.forall_mem_cons, List.not_mem_nil, false_implies, implies_true, and_true]; exact ⟨good_G0_0, good_G0_2⟩)) (fun hr => (spec_G0_eq (SParams.mk b d f g i j m o (SMode.mk p q r s t) u v w y z A) some).trans (h (SParams.mk b d f g i j m o (SMode.mk p q r s t) u v w y z A) hr))
  · cases hp
noncomputable def env_I0 : Env R := ⟨Try.prog, callNil, fun _ _ _ _ _ => none, Try.f58.results.toList, maskTab 12 [(0, 0xc1), (1, 0x101), (2, 0x4), (3, 0x4)], maskAt [(2, 1), (4, 7), (6, 8)]⟩
noncomputable def spec_I0 (a : Int) (k : V -> Option R) : Option R := let b := decide (a < 0); let c := decide (a > 5); let d : Bool := (bif b then true else c); bif d then k (V.int .i64 0) else let e := IntKind.wrap .i64 (3 * a); let f := IntKind.wrap .i64 (e + 1); k (V.int .i64 f)
abbrev av_I0 (a : Int) : List V := [V.int .i64 a]
theorem spec_I0_eq (a : Int) (k : V -> Option R) : fnK env_I0 Try.f58 (av_I0 a) k = spec_I0 a k := by kernel_rfl
theorem mk_I0 (h : ∀ (a : Int), Real (av_I0 a) -> spec_I0 a some = some (V.int .i64 (m_I0 a))) : G_I0 := goodHook1 fun l hp => by
  unfold hp_I0 at hp
  split at hp
  · rename_i b
    exact fn_ok (fn := Try.f58) (c := bodyOf Try.f58) (E := env_I0) ⟨by kernel_rfl, goodNil, rfl⟩ rfl (by kernel_rfl) (by kernel_rfl) (by kernel_rfl) (loopsOK_of _ (by have e : loopsOf (bodyOf Try.f58) = [] := (by kernel_rfl); rw [e]; intro p hp; cases hp)) (fun hr => (spec_I0_eq b some).trans (h b hr))
  · cases hp
theorem au_I0 (a : Int) : spec_I0 a some = some ((fun (m : Int) => (V.int .i64 m)) (m_I0 a)) := by
  repeat' (first | rfl | refine bif_t (v := (fun (m : Int) => (V.int .i64 m))) ?_ ?_)
theorem good_I0_of : G_I0 := mk_I0 (fun _ _ => au_I0 _)
end Go.Vm
