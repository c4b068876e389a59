import Derived.Test.YtjekfokamcfffaaWM
set_option linter.unusedVariables false
set_option linter.unusedSimpArgs false
set_option maxRecDepth 100000
noncomputable section
namespace Go.Vm
open Go.Proofs
variable {R : Type}
noncomputable def env_C8 : Env R := ⟨Try.prog, callNil, fun _ _ _ _ _ => none, Try.f105.results.toList, maskTab 28 [(0, 0x10f), (1, 0x100)], maskAt [(2, 1)]⟩
noncomputable def spec_C8 (c d a b : Int) (k : V -> Option R) : Option R := bif (decide (0 <= (IntKind.wrap .u64 a))) then let e := IntKind.wrap .i64 (c * 2 ^ (min (Int.toNat (IntKind.wrap .u64 a)) 64)); bif (decide (0 <= (IntKind.wrap .u64 b))) then let f := IntKind.wrap .i64 (d * 2 ^ (min (Int.toNat (IntKind.wrap .u64 b)) 64)); let g := IntKind.wrap .i64 (c + 1); bif (decide (0 <= (IntKind.wrap .u64 a))) then let i := IntKind.wrap .i64 (g * 2 ^ (min (Int.toNat (IntKind.wrap .u64 a)) 64)); let j := IntKind.wrap .i64 (d + 1); bif (decide (0 <= (IntKind.wrap .u64 b))) then let m := IntKind.wrap .i64 (j * 2 ^ (min (Int.toNat (IntKind.wrap .u64 b)) 64)); k (V.agg [V.int .i64 e, V.int .i64 f, V.int .i64 i, V.int .i64 m]) else none else none else none else none
abbrev av_C8 (a b c d : Int) : List V := [V.int .i64 a, V.int .i64 b, V.int .i64 c, V.int .i64 d]
theorem spec_C8_eq (a b c d : Int) (k : V -> Option R) : fnK env_C8 Try.f105 (av_C8 a b c d) k = spec_C8 a b c d k := by kernel_rfl
theorem mk_C8 (h : ∀ (a b d f : Int), Real (av_C8 a b d f) -> spec_C8 a b d f some = some (SRect.v (m_C8 a b d f))) : G_C8 := goodHook1 fun l hp => by
  unfold hp_C8 at hp
  split at hp
  · rename_i g i j m
    exact fn_ok (fn := Try.f105) (c := bodyOf Try.f105) (E := env_C8) ⟨by kernel_rfl, goodNil, rfl⟩ rfl (by kernel_rfl) (by kernel_rfl) (by kernel_rfl) (loopsOK_of _ (by have e : loopsOf (bodyOf Try.f105) = [] := (by kernel_rfl); rw [e]; intro p hp; cases hp)) (fun hr => (spec_C8_eq g i j m some).trans (h g i j m hr))
  · cases hp
theorem au_C8 (a b c d : Int) : pre_C8 a b c d = true -> spec_C8 a b c d some = some ((fun (m : SRect) => (SRect.v m)) (m_C8 a b c d)) := by
  repeat' (first | exact fun _ => rfl | exact fun h => absurd h (by decide) | refine bif_p (v := (fun (m : SRect) => (SRect.v m))) ?_ ?_)
theorem good_C8_of : G_C8 := mk_C8 (fun _ _ _ _ _ => au_C8 _ _ _ _ (pt_C8 _ _ _ _))
noncomputable def env_B1 : Env R := ⟨Try.prog, callCons 34 c_H1 (callCons 36 c_C6 (callCons 104 c_B6 (callCons 105 c_C8 callNil))), fun _ _ _ _ _ => none, Try.f95.results.toList, maskTab 68 [(0, 0x30199c00010fc), (1, 0x30199c001d09c), (2, 0x302000000d09c), (3, 0x3000), (4, 0x310000000d098), (5, 0x400000000d098), (6, 0x3000), (7, 0xd098), (8, 0x21000), (9, 0x20000000000021000), (10, 0x3000), (11, 0x3000)], maskAt [(2, 4), (4, 16), (6, 31), (8, 34), (10, 36), (12, 42), (14, 45), (16, 51), (18, 60), (20, 63), (22, 66)]⟩
noncomputable def spec_B1 (i f : SRect) (g d e j : Int) (k : V -> Option R) : Option R := let a := m_B6 i d e j; bif ((!a.2.2) == false) then let m := m_H1 f; let o := decide (g < 0); let p : Bool := (bif (!m) then true else o); let q := decide (g > 3); let r : Bool := (bif p then true else q); bif r then k (V.tup [(V.agg [(V.int .i64 0), (V.int .i64 0), (V.int .i64 0), (V.int .i64 0)]), V.bool false]) else bif (g != 0) then let s : Bool := (bif (d == 0) then true else (e == 0)); bif s then k (V.tup [(V.agg [(V.int .i64 0), (V.int .i64 0), (V.int .i64 0), (V.int .i64 0)]), V.bool false]) else let t := IntKind.wrap .i64 (d - 1); let u := IntKind.wrap .i64 (e - 1); let v := m_C8 a.1 a.2.1 t u; let b := m_C6 f v; let w := (b.X0 == 0) && ((b.Y0 == 0) && ((b.X1 == 0) && ((b.Y1 == 0) && true))); bif w then k (V.tup [(V.agg [(V.int .i64 0), (V.int .i64 0), (V.int .i64 0), (V.int .i64 0)]), V.bool true]) else k (V.tup [(SRect.v b), V.bool true]) else let y := m_C8 a.1 a.2.1 d e; let c := m_C6 f y; let z := (c.X0 == 0) && ((c.Y0 == 0) && ((c.X1 == 0) && ((c.Y1 == 0) && true))); bif z then k (V.tup [(V.agg [(V.int .i64 0), (V.int .i64 0), (V.int .i64 0), (V.int .i64 0)]), V.bool true]) else k (V.tup [(SRect.v c), V.bool true]) else k (V.tup [(V.agg [(V.int .i64 0), (V.int .i64 0), (V.int .i64 0), (V.int .i64 0)]), V.bool false])
abbrev av_B1 (a b : SRect) (c d e f : Int) : List V := [(SRect.v a), (SRect.v b), V.int .i64 c, V.int .i64 d, V.int .i64 e, V.int .i64 f]
theorem spec_B1_eq (a b : SRect) (c d e f : Int) (k : V -> Option R) : fnK env_B1 Try.f95 (av_B1 a b c d e f) k = spec_B1 a b c d e f k := by kernel_rfl
theorem mk_B1 (h_H1 : G_H1) (h_C6 : G_C6) (h_B6 : G_B6) (h_C8 : G_C8) (h : ∀ (a b : SRect) (d f g i : Int), Real (av_B1 a b d f g i) -> spec_B1 a b d f g i some = some (V.tup [(SRect.v (m_B1 a b d f g i).1), (V.bool (m_B1 a b d f g i).2)])) : G_B1 := goodHook1 fun l hp => by
  unfold hp_B1 at hp
  split at hp
  · rename_i j m o q r s t u v w y z
    exact fn_ok (fn := Try.f95) (c := bodyOf Try.f95) (E := env_B1) ⟨by kernel_rfl, (goodCons h_H1 (goodCons h_C6 (goodCons h_B6 (goodCons h_C8 goodNil)))), rfl⟩ rfl (by kernel_rfl) (by kernel_rfl) (by kernel_rfl) (loopsOK_of _ (by have e : loopsOf (bodyOf Try.f95) = [] := (by kernel_rfl); rw [e]; intro p hp; cases hp)) (fun hr => (spec_B1_eq (SRect.mk j m o q) (SRect.mk r s t u) v w y z some).trans (h (SRect.mk j m o q) (SRect.mk r s t u) v w y z hr))
  · cases hp
theorem au_B1 (a b : SRect) (c d e f : Int) : spec_B1 a b c d e f some = some ((fun (m : SRect × Bool) => (V.tup [(SRect.v m.1), V.bool m.2])) (m_B1 a b c d e f)) := by
  repeat' (first | rfl | refine bif_t (v := (fun (m : SRect × Bool) => (V.tup [(SRect.v m.1), V.bool m.2]))) ?_ ?_)
theorem good_B1_of (h_H1 : G_H1) (h_C6 : G_C6) (h_B6 : G_B6) (h_C8 : G_C8) : G_B1 := mk_B1 h_H1 h_C6 h_B6 h_C8 (fun _ _ _ _ _ _ _ => au_B1 _ _ _ _ _ _)
noncomputable def fuel_A9_2 (c d e f g i j m o a b : Int) (p : SRect) (q : Rows) : Nat := Int.toNat (a - b) + 1
noncomputable def step_A9_2 (c d t u e f g v w i : Int) (j : SRect) (a : Int) (b : Rows) (again : Int -> Rows -> Option R) (kn : Int -> Rows -> Option R) : Option R := bif (decide (a < i)) then let m := IntKind.wrap .i64 (e + a); let o := IntKind.wrap .i64 (f + g); let p := m_C8 m o c d; let q := m_C6 j p; bif (roomOK ((List.length b) + (1 : Nat)) 32) then let r := b ++ [(SRect.row q)]; let s := IntKind.wrap .i64 (a + 1); again s r else none else kn a b
noncomputable def loop_A9_2 (a b c d e f g i j m : Int) (o : SRect) : Nat -> Int -> Rows -> (Int -> Rows -> Option R) -> Option R
  | 0, _, _, _ => none
  | n + 1, p, q, kn => step_A9_2 a b c d e f g i j m o p q (fun r s => loop_A9_2 a b c d e f g i j m o n r s kn) kn
noncomputable def shape_A9_2 : ST := ⟨.undef :: .int .i64 :: .int .i64 :: .ptr 0 0 0 :: .undef :: .undef :: .int .i64 :: .int .i64 :: .vs 19 :: .int .i64 :: .int .i64 :: .int .i64 :: unds 10 (.int .i64 :: .int .i64 :: .undef :: .undef :: .int .i64 :: .int .i64 :: unds 21 []), [(0, .var SRect.sh false SRect.ts), (19, .vec SRect.sh false)], 28⟩
noncomputable def st_A9_2 (b c d e f g i j m o : Int) (a : SRect) (p : Int) (q : Rows) : St := shape_A9_2.put [.i b, .i c, .i d, .i e, .i f, .i g, .i i, .i j, .i m, .i o, .i p, .i a.X0, .i a.Y0, .i a.X1, .i a.Y1, .r q]
noncomputable def hook_A9_2 : LoopG R := fun l kn _ _ => match l with
  | .i a :: .i b :: .i c :: .i d :: .i e :: .i f :: .i g :: .i i :: .i j :: .i m :: .i s :: .i o :: .i p :: .i q :: .i r :: .r t :: [] => loop_A9_2 a b c d e f g i j m (SRect.mk o p q r) (fuel_A9_2 a b c d e f g i j m s (SRect.mk o p q r) t) s t (fun u v => kn (st_A9_2 a b c d e f g i j m (SRect.mk o p q r) u v))
  | _ => none
noncomputable def fuel_A9_0 (c d e f g i a b : Int) (j : SRect) (m : Rows) : Nat := Int.toNat (a - b) + 1
noncomputable def step_A9_0 (e f b g i j c : Int) (m : SRect) (a : Int) (d : Rows) (again : Int -> Rows -> Option R) (kn : Int -> Rows -> Option R) : Option R := bif (decide (a < c)) then loop_A9_2 e f b g i j a c a b m (fuel_A9_2 e f b g i j a c a b 0 m d) 0 d (fun q o => let p := IntKind.wrap .i64 (a + 1); again p o) else kn a d
noncomputable def loop_A9_0 (a b c d e f g : Int) (i : SRect) : Nat -> Int -> Rows -> (Int -> Rows -> Option R) -> Option R
  | 0, _, _, _ => none
  | n + 1, j, m, kn => step_A9_0 a b c d e f g i j m (fun o p => loop_A9_0 a b c d e f g i n o p kn) kn
noncomputable def shape_A9_0 : ST := ⟨.undef :: .int .i64 :: .int .i64 :: .ptr 0 0 0 :: .undef :: .undef :: .int .i64 :: .int .i64 :: .vs 19 :: .int .i64 :: .int .i64 :: unds 11 (.int .i64 :: .int .i64 :: unds 25 []), [(0, .var SRect.sh false SRect.ts), (19, .vec SRect.sh false)], 20⟩
noncomputable def st_A9_0 (b c d e f g i : Int) (a : SRect) (j : Int) (m : Rows) : St := shape_A9_0.put [.i b, .i c, .i d, .i e, .i f, .i g, .i i, .i j, .i a.X0, .i a.Y0, .i a.X1, .i a.Y1, .r m]
noncomputable def hook_A9_0 : LoopG R := fun l kn _ _ => match l with
  | .i a :: .i b :: .i c :: .i d :: .i e :: .i f :: .i g :: .i p :: .i i :: .i j :: .i m :: .i o :: .r q :: [] => loop_A9_0 a b c d e f g (SRect.mk i j m o) (fuel_A9_0 a b c d e f g p (SRect.mk i j m o) q) p q (fun r s => kn (st_A9_0 a b c d e f g (SRect.mk i j m o) r s))
  | _ => none
noncomputable def env_A9 : Env R := ⟨Try.prog, callCons 36 c_C6 (callCons 93 c_C3 (callCons 105 c_C8 callNil)), fun id => bif Nat.beq id 2 then loopAlt shape_A9_2 hook_A9_2 loopNil else (fun id => bif Nat.beq id 0 then loopAlt shape_A9_0 hook_A9_0 loopNil else (fun _ _ _ _ _ => none) id) id, Try.f97.results.toList, maskTab 49 [(0, 0x10e), (1, 0x7ce), (2, 0xc007ce), (3, 0x1c007ce), (4, 0xc00fce), (5, 0xcc00fce), (6, 0x1cc00fce), (7, 0xcc01fce), (8, 0xcc00fce), (9, 0xcc00fce), (10, 0xc007ce), (11, 0x1c0)], maskAt [(1, 19), (2, 4), (4, 17), (5, 28), (6, 23), (8, 24), (10, 26), (12, 32), (14, 33), (16, 35), (18, 50), (20, 52), (22, 54)]⟩
theorem step_A9_2_eq (a b c d e f g i j m : Int) (o : SRect) (r : Int) (s : Rows) (kn : St -> Option R) (kx : Nat -> St -> Option R) (kr : V -> Option R) (n : Nat) (t : Int) (u : Rows) :
    loopN env_A9 2 (loopAt Try.f97 1) (st_A9_2 a b c d e f g i j m o r s) kn kx kr (n + 1) (st_A9_2 a b c d e f g i j m o t u) =
    step_A9_2 a b c d e f g i j m o t u (fun p q => loopN env_A9 2 (loopAt Try.f97 1) (st_A9_2 a b c d e f g i j m o r s) kn kx kr n (st_A9_2 a b c d e f g i j m o p q)) (fun p q => kn (st_A9_2 a b c d e f g i j m o p q)) := by kernel_rfl
theorem loop_A9_2_eq (a b c d e f g i j m : Int) (o : SRect) (t : Int) (u : Rows) (kn : St -> Option R) (kx : Nat -> St -> Option R) (kr : V -> Option R) : ∀ (n : Nat) (p : Int) (q : Rows),
    loop_A9_2 a b c d e f g i j m o n p q (fun r s => kn (st_A9_2 a b c d e f g i j m o r s)) = loopN env_A9 2 (loopAt Try.f97 1) (st_A9_2 a b c d e f g i j m o t u) kn kx kr n (st_A9_2 a b c d e f g i j m o p q)
  | 0, _, _ => rfl
  | n + 1, p, q => by
    rw [step_A9_2_eq, loop_A9_2]
    congr 1
    funext r s
    exact loop_A9_2_eq a b c d e f g i j m o t u kn kx kr n r s
theorem goodl_A9_2 {rest} (h : GoodL (R := R) env_A9 2 (loopAt Try.f97 1) rest) : GoodL (R := R) env_A9 2 (loopAt Try.f97 1) (loopAlt shape_A9_2 hook_A9_2 rest) := by
  refine goodL_alt (fun l kn kx kr r h => ?_) h
  unfold hook_A9_2 at h
  split at h
  · rename_i c d e f g i j m o p a q s t u b
    exact ⟨_, (loop_A9_2_eq c d e f g i j m o p (SRect.mk q s t u) a b kn kx kr _ a b).symm.trans h⟩
  · cases h
theorem step_A9_0_eq (a b c d e f g : Int) (i : SRect) (o : Int) (p : Rows) (kn : St -> Option R) (kx : Nat -> St -> Option R) (kr : V -> Option R) (n : Nat) (q : Int) (r : Rows) :
    loopN env_A9 0 (loopAt Try.f97 0) (st_A9_0 a b c d e f g i o p) kn kx kr (n + 1) (st_A9_0 a b c d e f g i q r) =
    step_A9_0 a b c d e f g i q r (fun j m => loopN env_A9 0 (loopAt Try.f97 0) (st_A9_0 a b c d e f g i o p) kn kx kr n (st_A9_0 a b c d e f g i j m)) (fun j m => kn (st_A9_0 a b c d e f g i j m)) := by kernel_rfl
theorem loop_A9_0_eq (a b c d e f g : Int) (i : SRect) (q : Int) (r : Rows) (kn : St -> Option R) (kx : Nat -> St -> Option R) (kr : V -> Option R) : ∀ (n : Nat) (j : Int) (m : Rows),
    loop_A9_0 a b c d e f g i n j m (fun o p => kn (st_A9_0 a b c d e f g i o p)) = loopN env_A9 0 (loopAt Try.f97 0) (st_A9_0 a b c d e f g i q r) kn kx kr n (st_A9_0 a b c d e f g i j m)
  | 0, _, _ => rfl
  | n + 1, j, m => by
    rw [step_A9_0_eq, loop_A9_0]
    congr 1
    funext o p
    exact loop_A9_0_eq a b c d e f g i q r kn kx kr n o p
theorem goodl_A9_0 {rest} (h : GoodL (R := R) env_A9 0 (loopAt Try.f97 0) rest) : GoodL (R := R) env_A9 0 (loopAt Try.f97 0) (loopAlt shape_A9_0 hook_A9_0 rest) := by
  refine goodL_alt (fun l kn kx kr r h => ?_) h
  unfold hook_A9_0 at h
  split at h
  · rename_i c d e f g i j a m o p q b
    exact ⟨_, (loop_A9_0_eq c d e f g i j (SRect.mk m o p q) a b kn kx kr _ a b).symm.trans h⟩
  · cases h
theorem good_A9_0 : GoodLoop (R := R) env_A9 0 (loopAt Try.f97 0) := goodL_loop (g := loopAlt shape_A9_0 hook_A9_0 loopNil) (fun _ _ _ _ => rfl) (goodl_A9_0 goodL_nil)
theorem good_A9_2 : GoodLoop (R := R) env_A9 2 (loopAt Try.f97 1) := goodL_loop (g := loopAlt shape_A9_2 hook_A9_2 loopNil) (fun _ _ _ _ => rfl) (goodl_A9_2 goodL_nil)
noncomputable def spec_A9 (b : SRect) (c d : Int) (k : V -> Option R) : Option R := let a := m_C3 b c d 6; loop_A9_0 c d a.2.2.1 a.2.2.2 a.1 a.2.1 a.2.2.2 b (fuel_A9_0 c d a.2.2.1 a.2.2.2 a.1 a.2.1 a.2.2.2 0 b []) 0 [] (fun f e => k (V.tup [V.int .i64 a.2.2.1, V.int .i64 a.2.2.2, V.data SRect.sh e]))
abbrev av_A9 (a : SRect) (b c : Int) : List V := [(SRect.v a), V.int .i64 b, V.int .i64 c]
theorem spec_A9_eq (a : SRect) (b c : Int) (k : V -> Option R) : fnK env_A9 Try.f97 (av_A9 a b c) k = spec_A9 a b c k := by kernel_rfl
theorem mk_A9 (h_C6 : G_C6) (h_C3 : G_C3) (h_C8 : G_C8) (h : ∀ (a : SRect) (b d : Int), Real (av_A9 a b d) -> spec_A9 a b d some = some (V.tup [(V.int .i64 (m_A9 a b d).1), (V.int .i64 (m_A9 a b d).2.1), (V.data SRect.sh (m_A9 a b d).2.2)])) : G_A9 := goodHook1 fun l hp => by
  unfold hp_A9 at hp
  split at hp
  · rename_i f g i j m o
    exact fn_ok (fn := Try.f97) (c := bodyOf Try.f97) (E := env_A9) ⟨by kernel_rfl, (goodCons h_C6 (goodCons h_C3 (goodCons h_C8 goodNil))), rfl⟩ rfl (by kernel_rfl) (by kernel_rfl) (by kernel_rfl) (loopsOK_of _ (by have e : loopsOf (bodyOf Try.f97) = [(0, loopAt Try.f97 0), (2, loopAt Try.f97 1)] := (by kernel_rfl); rw [e]; simp only [List.forall_mem_cons, List.not_mem_nil, false_implies, implies_true, and_true]; exact ⟨good_A9_0, good_A9_2⟩)) (fun hr => (spec_A9_eq (SRect.mk f g i j) m o some).trans (h (SRect.mk f g i j) m o hr))
  · cases hp
noncomputable def env_F3 : Env R := ⟨Try.prog, callCons 57 c_B0 (callCons 69 c_A6 (callCons 70 c_B5 (callCons 94 c_D6 (callCons 95 c_B1 (callCons 96 c_F1 (callCons 97 c_A9 callNil)))))), fun _ _ _ _ _ => none, Try.f73.results.toList, maskTab 99 [(0, 0x10fc), (1, 0xf0fc), (2, 0x400070fc), (3, 0x1000), (4, 0x170fc), (5, 0x2000170fc), (6, 0x150fc), (7, 0x350b0), (8, 0x750b0), (9, 0xd9080), (10, 0x800000000000d1080), (11, 0x1000), (12, 0x4000000000000c1080), (13, 0xc1080), (14, 0x1c1080), (15, 0x101000), (16, 0x1000)], maskAt [(2, 3), (4, 14), (6, 16), (8, 18), (10, 19), (12, 21), (14, 27), (16, 33), (18, 38), (20, 61), (22, 63), (24, 65), (26, 67), (28, 77), (30, 78), (32, 100)]⟩
noncomputable def spec_F3 (o : SHeader) (a : SParams) (p q d r : Int) (k : V -> Option R) : Option R := let e := m_D6 d a.Levels; bif (!e.2.2) then k (V.agg [(V.int .i64 0), (V.int .i64 0), (V.data SRect.sh [])]) else let y := decide (d > 0); bif y then let z := IntKind.wrap .i64 (a.Levels - e.1); let f := IntKind.wrap .i64 (z + 1); let s := m_B0 o p q; let b := m_B5 a f; let A := m_A6 s a.Levels f; let B := m_F1 s a.Levels d; let g := m_B1 A B e.2.1 b.X b.Y r; bif (!g.2) then k (V.agg [(V.int .i64 0), (V.int .i64 0), (V.data SRect.sh [])]) else let D := decide (f > 0); bif D then let t := IntKind.wrap .i64 (b.X - 1); let u := IntKind.wrap .i64 (b.Y - 1); let E : Int := (bif (decide (t < a.BlockX)) then t else a.BlockX); let F : Int := (bif (decide (u < a.BlockY)) then u else a.BlockY); let i := m_A9 g.1 E F; k (V.agg [V.int .i64 i.1, V.int .i64 i.2.1, V.data SRect.sh i.2.2]) else let H : Int := (bif (decide (b.X < a.BlockX)) then b.X else a.BlockX); let I : Int := (bif (decide (b.Y < a.BlockY)) then b.Y else a.BlockY); let j := m_A9 g.1 H I; k (V.agg [V.int .i64 j.1, V.int .i64 j.2.1, V.data SRect.sh j.2.2]) else let v := m_B0 o p q; let c := m_B5 a 0; let J := m_A6 v a.Levels 0; let K := m_F1 v a.Levels d; let w := m_B1 J K e.2.1 c.X c.Y r; bif (!w.2) then k (V.agg [(V.int .i64 0), (V.int .i64 0), (V.data SRect.sh [])]) else let L : Int := (bif (decide (c.X < a.BlockX)) then c.X else a.BlockX); let M : Int := (bif (decide (c.Y < a.BlockY)) then c.Y else a.BlockY); let m := m_A9 w.1 L M; k (V.agg [V.int .i64 m.1, V.int .i64 m.2.1, V.data SRect.sh m.2.2])
abbrev av_F3 (a : SHeader) (b : SParams) (c d e f : Int) : List V := [(SHeader.v a), (SParams.v b), V.int .i64 c, V.int .i64 d, V.int .i64 e, V.int .i64 f]
theorem spec_F3_eq (a : SHeader) (b : SParams) (c d e f : Int) (k : V -> Option R) : fnK env_F3 Try.f73 (av_F3 a b c d e f) k = spec_F3 a b c d e f k := by kernel_rfl
theorem mk_F3 (h_B0 : G_B0) (h_A6 : G_A6) (h_B5 : G_B5) (h_D6 : G_D6) (h_B1 : G_B1) (h_F1 : G_F1) (h_A9 : G_A9) (h : ∀ (a : SHeader) (b : SParams) (d f g i : Int), Real (av_F3 a b d f g i) -> spec_F3 a b d f g i some = some (Slayout_part.v (m_F3 a b d f g i))) : G_F3 := goodHook1 fun l hp => by
  unfold hp_F3 at hp
  split at hp
  · rename_i j m o q r s t u v w y z A B D F H I J K L M N O Q S U W X Y
    exact fn_ok (fn := Try.f73) (c := bodyOf Try.f73) (E := env_F3) ⟨by kernel_rfl, (goodCons h_B0 (goodCons h_A6 (goodCons h_B5 (goodCons h_D6 (goodCons h_B1 (goodCons h_F1 (goodCons h_A9 goodNil))))))), rfl⟩ rfl (by kernel_rfl) (by kernel_rfl) (by kernel_rfl) (loopsOK_of _ (by have e : loopsOf (bodyOf Try.f73) = [] := (by kernel_rfl); rw [e]; intro p hp; cases hp)) (fun hr => (spec_F3_eq (SHeader.mk (SRect.mk j m o q) r s t) (SParams.mk u v w y z A B D (SMode.mk F H I J K) L M N O Q S) U W X Y some).trans (h (SHeader.mk (SRect.mk j m o q) r s t) (SParams.mk u v w y z A B D (SMode.mk F H I J K) L M N O Q S) U W X Y hr))
  · cases hp
theorem au_F3 (a : SHeader) (b : SParams) (c d e f : Int) : spec_F3 a b c d e f some = some ((fun (m : Slayout_part) => (Slayout_part.v m)) (m_F3 a b c d e f)) := by
  repeat' (first | rfl | refine bif_t (v := (fun (m : Slayout_part) => (Slayout_part.v m))) ?_ ?_)
theorem good_F3_of (h_B0 : G_B0) (h_A6 : G_A6) (h_B5 : G_B5) (h_D6 : G_D6) (h_B1 : G_B1) (h_F1 : G_F1) (h_A9 : G_A9) : G_F3 := mk_F3 h_B0 h_A6 h_B5 h_D6 h_B1 h_F1 h_A9 (fun _ _ _ _ _ _ _ => au_F3 _ _ _ _ _ _)
noncomputable def fuel_A7_0 (c : Int) (d : SPacketID) (e : Rows) (a b : Int) (f : Rows) : Nat := Int.toNat (a - b) + 1
noncomputable def step_A7_0 (f : Int) (c : SPacketID) (e : Rows) (g : Int) (a : Int) (d : Rows) (again : Int -> Rows -> Option R) (kn : Int -> Rows -> Option R) : Option R := bif (decide (a < g)) then bif (inR a (List.length e)) then let i := List.getD e (Int.toNat a) []; let b := SRect.of i; bif (roomOK ((List.length d) + (1 : Nat)) 72) then let j := d ++ [[V.int .i64 c.Comp, V.int .i64 c.Res, V.int .i64 f, V.int .i64 c.Precinct, V.int .i64 a, V.int .i64 b.X0, V.int .i64 b.Y0, V.int .i64 b.X1, V.int .i64 b.Y1]]; let m := IntKind.wrap .i64 (a + 1); again m j else none else none else kn a d
noncomputable def loop_A7_0 (a : Int) (b : SPacketID) (c : Rows) (d : Int) : Nat -> Int -> Rows -> (Int -> Rows -> Option R) -> Option R
  | 0, _, _, _ => none
  | n + 1, e, f, kn => step_A7_0 a b c d e f (fun g i => loop_A7_0 a b c d n g i kn) kn
noncomputable def shape_A7_0 : ST := ⟨.int .i64 :: unds 3 (.pdc SRect.sh 0 [.int .i64, .int .i64, .int .i64, .int .i64] :: .undef :: .undef :: .vs 14 :: unds 11 (.data SRect.sh :: .int .i64 :: .int .i64 :: unds 19 [])), [(14, .vec SBlockID.sh false)], 15⟩
noncomputable def st_A7_0 (b : Int) (a : SPacketID) (c : Rows) (d : Int) (e : Int) (f : Rows) : St := shape_A7_0.put [.i b, .i a.Comp, .i a.Res, .i a.Precinct, .i a.Layer, .r c, .i d, .i e, .r f]
noncomputable def hook_A7_0 : LoopG R := fun l kn _ _ => match l with
  | .i a :: .i b :: .i c :: .i d :: .i e :: .r f :: .i g :: .i i :: .r j :: [] => loop_A7_0 a (SPacketID.mk b c d e) f g (fuel_A7_0 a (SPacketID.mk b c d e) f g i j) i j (fun m o => kn (st_A7_0 a (SPacketID.mk b c d e) f g m o))
  | _ => none
noncomputable def env_A7 : Env R := ⟨Try.prog, callCons 73 c_F3 callNil, fun id => bif Nat.beq id 0 then loopAlt shape_A7_0 hook_A7_0 loopNil else (fun _ _ _ _ _ => none) id, Try.f72.results.toList, maskTab 41 [(0, 0x1f), (1, 0x9f), (2, 0x380091), (3, 0x780091), (4, 0x380391), (5, 0x380091), (6, 0x380091), (7, 0x40)], maskAt [(1, 14), (2, 1), (4, 2), (6, 18), (8, 19), (10, 25), (12, 39), (14, 41)]⟩
theorem step_A7_0_eq (a : Int) (b : SPacketID) (c : Rows) (d : Int) (g : Int) (i : Rows) (kn : St -> Option R) (kx : Nat -> St -> Option R) (kr : V -> Option R) (n : Nat) (j : Int) (m : Rows) :
    loopN env_A7 0 (loopAt Try.f72 0) (st_A7_0 a b c d g i) kn kx kr (n + 1) (st_A7_0 a b c d j m) =
    step_A7_0 a b c d j m (fun e f => loopN env_A7 0 (loopAt Try.f72 0) (st_A7_0 a b c d g i) kn kx kr n (st_A7_0 a b c d e f)) (fun e f => kn (st_A7_0 a b c d e f)) := by kernel_rfl
theorem loop_A7_0_eq (a : Int) (b : SPacketID) (c : Rows) (d : Int) (j : Int) (m : Rows) (kn : St -> Option R) (kx : Nat -> St -> Option R) (kr : V -> Option R) : ∀ (n : Nat) (e : Int) (f : Rows),
    loop_A7_0 a b c d n e f (fun g i => kn (st_A7_0 a b c d g i)) = loopN env_A7 0 (loopAt Try.f72 0) (st_A7_0 a b c d j m) kn kx kr n (st_A7_0 a b c d e f)
  | 0, _, _ => rfl
  | n + 1, e, f => by
    rw [step_A7_0_eq, loop_A7_0]
    congr 1
    funext g i
    exact loop_A7_0_eq a b c d j m kn kx kr n g i
theorem goodl_A7_0 {rest} (h : GoodL (R := R) env_A7 0 (loopAt Try.f72 0) rest) : GoodL (R := R) env_A7 0 (loopAt Try.f72 0) (loopAlt shape_A7_0 hook_A7_0 rest) := by
  refine goodL_alt (fun l kn kx kr r h => ?_) h
  unfold hook_A7_0 at h
  split at h
  · rename_i c d e f g i j a b
    exact ⟨_, (loop_A7_0_eq c (SPacketID.mk d e f g) i j a b kn kx kr _ a b).symm.trans h⟩
  · cases h
theorem good_A7_0 : GoodLoop (R := R) env_A7 0 (loopAt Try.f72 0) := goodL_loop (g := loopAlt shape_A7_0 hook_A7_0 loopNil) (fun _ _ _ _ => rfl) (goodl_A7_0 goodL_nil)
noncomputable def spec_A7 (b : Int) (e : SHeader) (f : SParams) (g : Int) (a : SPacketID) (k : V -> Option R) : Option R := let c := m_F3 e f g a.Comp b a.Precinct; let d := (((List.length c.blocks) : Nat) : Int); loop_A7_0 b a c.blocks d (fuel_A7_0 b a c.blocks d 0 []) 0 [] (fun j i => k (V.data SBlockID.sh i))
abbrev av_A7 (a : Int) (b : SHeader) (c : SParams) (d : Int) (e : SPacketID) : List V := [V.int .i64 a, (V.pdat SHeader.sh (SHeader.row b) 0), (V.pdat SParams.sh (SParams.row c) 0), (V.pdat [.int .i64] [V.int .i64 d] 0), (V.pdat SRect.sh (SPacketID.row e) 0)]
theorem spec_A7_eq (a : Int) (b : SHeader) (c : SParams) (d : Int) (e : SPacketID) (k : V -> Option R) : fnK env_A7 Try.f72 (av_A7 a b c d e) k = spec_A7 a b c d e k := by kernel_rfl
theorem mk_A7 (h_F3 : G_F3) (h : ∀ (a : Int) (b : SHeader) (d : SParams) (f : Int) (g : SPacketID), Real (av_A7 a b d f g) -> spec_A7 a b d f g some = some (V.data SBlockID.sh (m_A7 a b d f g))) : G_A7 := goodHook1 fun l hp => by
  unfold hp_A7 at hp
  split at hp
  · rename_i i j m o p q r s t u v w y z A B D F H I J K L M N O Q S U W X Y
    exact fn_ok (fn := Try.f72) (c := bodyOf Try.f72) (E := env_A7) ⟨by kernel_rfl, (goodCons h_F3 goodNil), rfl⟩ rfl (by kernel_rfl) (by kernel_rfl) (by kernel_rfl) (loopsOK_of _ (by have e : loopsOf (bodyOf Try.f72) = [(0, loopAt Try.f72 0)] := (by kernel_rfl); rw [e]; simp only [List.forall_mem_cons, List.not_mem_nil, false_implies, implies_true, and_true]; exact good_A7_0)) (fun hr => (spec_A7_eq i (SHeader.mk (SRect.mk j m o p) q r s) (SParams.mk t u v w y z A B (SMode.mk D F H I J) K L M N O Q) S (SPacketID.mk U W X Y) some).trans (h i (SHeader.mk (SRect.mk j m o p) q r s) (SParams.mk t u v w y z A B (SMode.mk D F H I J) K L M N O Q) S (SPacketID.mk U W X Y) hr))
  · cases hp
noncomputable def fuel_B8_0 (c : Rows) (a b : Int) (d : SHeader) (e : SParams) (f : Int) (g : SPacketID) (i : Rows) : Nat := Int.toNat (a - b) + 1
noncomputable def step_B8_0 (c : Rows) (d : Int) (e : SHeader) (f : SParams) (g : Int) (i : SPacketID) (a : Int) (b : Rows) (again : Int -> Rows -> Option R) (kn : Int -> Rows -> Option R) : Option R := bif (decide (a < d)) then bif (inR a (List.length c)) then let j := List.getD c (Int.toNat a) []; let m := V.toInt (List.getD j 0 V.undef); let o := m_A7 m e f g i; bif (roomOK ((List.length b) + (1 : Nat)) 24) then let p := b ++ [[V.data SBlockID.sh o]]; let q := IntKind.wrap .i64 (a + 1); again q p else none else none else kn a b
noncomputable def loop_B8_0 (a : Rows) (b : Int) (c : SHeader) (d : SParams) (e : Int) (f : SPacketID) : Nat -> Int -> Rows -> (Int -> Rows -> Option R) -> Option R
  | 0, _, _, _ => none
  | n + 1, g, i, kn => step_B8_0 a b c d e f g i (fun j m => loop_B8_0 a b c d e f n j m kn) kn
noncomputable def shape_B8_0 : ST := ⟨unds 9 (.fn 72 [.ptr 0 0 0, .ptr 1 0 0, .ptr 2 0 0, .ptr 3 0 0] :: .vs 15 :: unds 7 (.data [.int .i64] :: .int .i64 :: .int .i64 :: unds 12 [])), [(0, .var SHeader.sh true SHeader.ts), (1, .var SParams.sh true SParams.ts), (2, .var [.int .i64] true [.int .i64]), (3, .var SRect.sh true SRect.ts), (15, .vec [.sl SBlockID.sh] false)], 16⟩
noncomputable def st_B8_0 (d : Rows) (e : Int) (b : SHeader) (a : SParams) (f : Int) (c : SPacketID) (g : Int) (i : Rows) : St := shape_B8_0.put [.r d, .i e, .i g, .i b.Area.X0, .i b.Area.Y0, .i b.Area.X1, .i b.Area.Y1, .i b.TileW, .i b.TileH, .r b.Components, .i a.Kernel, .i a.Levels, .i a.Color, .i a.BlockX, .i a.BlockY, .r a.Precincts, .i a.Order, .i a.Layers, .b a.Mode.Bypass, .b a.Mode.Restart, .b a.Mode.Reset, .b a.Mode.Causal, .b a.Mode.Symbols, .b a.Divide, .b a.Sync, .b a.Fence, .r a.Steps, .i a.Dead, .i a.Shift, .i f, .i c.Comp, .i c.Res, .i c.Precinct, .i c.Layer, .r i]
noncomputable def hook_B8_0 : LoopG R := fun l kn _ _ => match l with
  | .r a :: .i b :: .i O :: .i c :: .i d :: .i e :: .i f :: .i g :: .i i :: .r j :: .i m :: .i o :: .i p :: .i q :: .i r :: .r s :: .i t :: .i u :: .b v :: .b w :: .b y :: .b z :: .b A :: .b B :: .b D :: .b E :: .r F :: .i H :: .i I :: .i J :: .i K :: .i L :: .i M :: .i N :: .r Q :: [] => loop_B8_0 a b (SHeader.mk (SRect.mk c d e f) g i j) (SParams.mk m o p q r s t u (SMode.mk v w y z A) B D E F H I) J (SPacketID.mk K L M N) (fuel_B8_0 a b O (SHeader.mk (SRect.mk c d e f) g i j) (SParams.mk m o p q r s t u (SMode.mk v w y z A) B D E F H I) J (SPacketID.mk K L M N) Q) O Q (fun S U => kn (st_B8_0 a b (SHeader.mk (SRect.mk c d e f) g i j) (SParams.mk m o p q r s t u (SMode.mk v w y z A) B D E F H I) J (SPacketID.mk K L M N) S U))
  | _ => none
noncomputable def env_B8 : Env R := ⟨Try.prog, callCons 41 c_F8 (callCons 72 c_A7 (callCons 74 c_B4 callNil)), fun id => bif Nat.beq id 0 then loopAlt shape_B8_0 hook_B8_0 loopNil else (fun _ _ _ _ _ => none) id, Try.f40.results.toList, maskTab 33 [(0, 0xf0), (1, 0x2a0), (2, 0x6a0), (3, 0x1c0600), (4, 0x3c0600), (5, 0x1c1600), (6, 0x1c0600), (7, 0x1c0600), (8, 0x100)], maskAt [(1, 15), (2, 5), (4, 7), (6, 8), (8, 19), (10, 20), (12, 23), (14, 30), (16, 32)]⟩
theorem step_B8_0_eq (a : Rows) (b : Int) (c : SHeader) (d : SParams) (e : Int) (f : SPacketID) (j : Int) (m : Rows) (kn : St -> Option R) (kx : Nat -> St -> Option R) (kr : V -> Option R) (n : Nat) (o : Int) (p : Rows) :
    loopN env_B8 0 (loopAt Try.f40 0) (st_B8_0 a b c d e f j m) kn kx kr (n + 1) (st_B8_0 a b c d e f o p) =
    step_B8_0 a b c d e f o p (fun g i => loopN env_B8 0 (loopAt Try.f40 0) (st_B8_0 a b c d e f j m) kn kx kr n (st_B8_0 a b c d e f g i)) (fun g i => kn (st_B8_0 a b c d e f g i)) := by kernel_rfl
theorem loop_B8_0_eq (a : Rows) (b : Int) (c : SHeader) (d : SParams) (e : Int) (f : SPacketID) (o : Int) (p : Rows) (kn : St -> Option R) (kx : Nat -> St -> Option R) (kr : V -> Option R) : ∀ (n : Nat) (g : Int) (i : Rows),
    loop_B8_0 a b c d e f n g i (fun j m => kn (st_B8_0 a b c d e f j m)) = loopN env_B8 0 (loopAt Try.f40 0) (st_B8_0 a b c d e f o p) kn kx kr n (st_B8_0 a b c d e f g i)
  | 0, _, _ => rfl
  | n + 1, g, i => by
    rw [step_B8_0_eq, loop_B8_0]
    congr 1
    funext j m
    exact loop_B8_0_eq a b c d e f o p kn kx kr n j m
theorem goodl_B8_0 {rest} (h : GoodL (R := R) env_B8 0 (loopAt Try.f40 0) rest) : GoodL (R := R) env_B8 0 (loopAt Try.f40 0) (loopAlt shape_B8_0 hook_B8_0 rest) := by
  refine goodL_alt (fun l kn kx kr r h => ?_) h
  unfold hook_B8_0 at h
  split at h
  · rename_i c d a e f g i j m o p q s t u v w y z A B D E F H I J K L M N O Q S b
    exact ⟨_, (loop_B8_0_eq c d (SHeader.mk (SRect.mk e f g i) j m o) (SParams.mk p q s t u v w y (SMode.mk z A B D E) F H I J K L) M (SPacketID.mk N O Q S) a b kn kx kr _ a b).symm.trans h⟩
  · cases h
theorem good_B8_0 : GoodLoop (R := R) env_B8 0 (loopAt Try.f40 0) := goodL_loop (g := loopAlt shape_B8_0 hook_B8_0 loopNil) (fun _ _ _ _ => rfl) (goodl_B8_0 goodL_nil)
noncomputable def spec_B8 (d : SHeader) (a : SParams) (e : Int) (b : SPacketID) (k : V -> Option R) : Option R := let c := m_B4 a.Levels b.Res; let f := (((List.length c) : Nat) : Int); loop_B8_0 c f d a e b (fuel_B8_0 c f 0 d a e b []) 0 [] (fun j g => bif (pre_F8 g) then let i := m_F8 g; k (V.data SBlockID.sh i) else none)
abbrev av_B8 (a : SHeader) (b : SParams) (c : Int) (d : SPacketID) : List V := [(SHeader.v a), (SParams.v b), V.int .i64 c, (SPacketID.v d)]
theorem spec_B8_eq (a : SHeader) (b : SParams) (c : Int) (d : SPacketID) (k : V -> Option R) : fnK env_B8 Try.f40 (av_B8 a b c d) k = spec_B8 a b c d k := by kernel_rfl
theorem mk_B8 (h_F8 : G_F8) (h_A7 : G_A7) (h_B4 : G_B4) (h : ∀ (a : SHeader) (b : SParams) (d : Int) (f : SPacketID), Real (av_B8 a b d f) -> spec_B8 a b d f some = some (V.data SBlockID.sh (m_B8 a b d f))) : G_B8 := goodHook1 fun l hp => by
  unfold hp_B8 at hp
  split at hp
  · rename_i g i j m o p q r s t u v w y z A B D F H I J K L M N O Q S U W
    exact fn_ok (fn := Try.f40) (c := bodyOf Try.f40) (E := env_B8) ⟨by kernel_rfl, (goodCons h_F8 (goodCons h_A7 (goodCons h_B4 goodNil))), rfl⟩ rfl (by kernel_rfl) (by kernel_rfl) (by kernel_rfl) (loopsOK_of _ (by have e : loopsOf (bodyOf Try.f40) = [(0, loopAt Try.f40 0)] := (by kernel_rfl); rw [e]; simp only [List.forall_mem_cons, List.not_mem_nil, false_implies, implies_true, and_true]; exact good_B8_0)) (fun hr => (spec_B8_eq (SHeader.mk (SRect.mk g i j m) o p q) (SParams.mk r s t u v w y z (SMode.mk A B D F H) I J K L M N) O (SPacketID.mk Q S U W) some).trans (h (SHeader.mk (SRect.mk g i j m) o p q) (SParams.mk r s t u v w y z (SMode.mk A B D F H) I J K L M N) O (SPacketID.mk Q S U W) hr))
  · cases hp
end Go.Vm
