import Derived.Test.YtplgoojpbnobiaaGreatWC
set_option linter.unusedVariables false
set_option linter.unusedSimpArgs false
set_option maxRecDepth 100000
noncomputable section
namespace Go.Vm
open Go.Proofs
noncomputable def env_marker_Known {R : Type} : Env R := ⟨Tryz.prog, callNil, fun _ _ _ _ _ => none, Tryz.f88.results.toList, maskTab 15 [(0, 0x1), (1, 0x8), (2, 0x18), (3, 0x18), (4, 0x18), (5, 0x18), (6, 0x18), (7, 0x18), (8, 0x18), (9, 0x18), (10, 0x18), (11, 0x10), (12, 0x4), (13, 0x4)], maskAt [(2, 1), (4, 2), (6, 4), (8, 6), (10, 8), (12, 10), (14, 12), (16, 14), (18, 16), (20, 18), (22, 20), (24, 22), (26, 23)], noSort⟩
noncomputable def spec_marker_Known {R : Type} (a0 : Int) (k : V → Option R) : Option R :=
 bif (a0 == (65440 : Int)) then
 bif (a0 == (65440 : Int)) then
 k (V.bool true)
 else
 k (V.bool false)
 else
 bif (a0 == (65441 : Int)) then
 bif (a0 == (65441 : Int)) then
 k (V.bool true)
 else
 k (V.bool false)
 else
 bif (a0 == (65442 : Int)) then
 bif (a0 == (65442 : Int)) then
 k (V.bool true)
 else
 k (V.bool false)
 else
 bif (a0 == (65443 : Int)) then
 bif (a0 == (65443 : Int)) then
 k (V.bool true)
 else
 k (V.bool false)
 else
 bif (a0 == (65444 : Int)) then
 bif (a0 == (65444 : Int)) then
 k (V.bool true)
 else
 k (V.bool false)
 else
 bif (a0 == (65445 : Int)) then
 bif (a0 == (65445 : Int)) then
 k (V.bool true)
 else
 k (V.bool false)
 else
 bif (a0 == (65455 : Int)) then
 bif (a0 == (65455 : Int)) then
 k (V.bool true)
 else
 k (V.bool false)
 else
 bif (a0 == (65456 : Int)) then
 bif (a0 == (65456 : Int)) then
 k (V.bool true)
 else
 k (V.bool false)
 else
 bif (a0 == (65457 : Int)) then
 bif (a0 == (65457 : Int)) then
 k (V.bool true)
 else
 k (V.bool false)
 else
 bif (a0 == (65458 : Int)) then
 k (V.bool true)
 else
 k (V.bool false)
abbrev av_marker_Known (a0 : Int) : List V := [(V.int .i64 a0)]
theorem spec_marker_Known_eq {R : Type} (a0 : Int) (k : V → Option R) : fnK env_marker_Known Tryz.f88 (av_marker_Known a0) k = spec_marker_Known a0 k := by kernel_rfl
theorem ok_marker_Known (a0 : Int) {v : V} (h : Real (av_marker_Known a0) → spec_marker_Known a0 some = some v) : FunOK Tryz.prog 88 (av_marker_Known a0) v :=
  fn_ok (fn := Tryz.f88) (c := bodyOf Tryz.f88) (E := env_marker_Known) ⟨by kernel_rfl, goodNil, rfl, goodS_no⟩ rfl (by kernel_rfl) (by kernel_rfl) (by kernel_rfl)
  (loopsOK_of _ (by
    have e : loopsOf (bodyOf Tryz.f88) = [] := by kernel_rfl
    rw [e]
    intro p hp; cases hp))
  (fun hr => (spec_marker_Known_eq a0 some).trans (h hr))
theorem mk_marker_Known (h : ∀ (a0 : Int), Real (av_marker_Known a0) → spec_marker_Known a0 some = some (V.bool (m_marker_Known a0))) : G_marker_Known := goodHook1 fun l hp => by
  unfold hp_marker_Known at hp
  split at hp
  · rename_i x0
    exact ok_marker_Known x0 fun hr => h x0 hr
  · cases hp
theorem au_marker_Known (a0 : Int) : spec_marker_Known a0 some = some ((fun (m : Bool) => (V.bool m)) (m_marker_Known a0)) := by
  repeat' (first | rfl | refine bif_t (v := (fun (m : Bool) => (V.bool m))) ?_ ?_)
theorem good_marker_Known_of : G_marker_Known := mk_marker_Known (fun _ _ => au_marker_Known _)
noncomputable def fuel_marker_ReadUint_0 (i0_0 : Int) (r0_1 : Rows) (i0_2 i0_3 : Int) : Nat :=
 Int.toNat (i0_2 - i0_3) + 1
noncomputable def step_marker_ReadUint_0 {R : Type} (r0_1 : Rows) (i0_2 : Int) (i0_0 i0_3 : Int) (again : Int → Int → Option R) (kn : Int → Int → Option R) : Option R :=
 bif (decide (i0_3 < i0_2)) then
 bif (inR i0_3 (List.length r0_1)) then
 let w12 : List V := (List.getD r0_1 (Int.toNat i0_3) [])
 let x13 : Int := (V.toInt (List.getD w12 0 V.undef))
 let x14 : Int := (IntKind.wrap .i64 (i0_0 * 2 ^ (8 : Nat)))
 let x15 : Int := (intBits .or .i64 x14 (IntKind.wrap .i64 x13))
 let x16 : Int := (IntKind.wrap .i64 (i0_3 + (1 : Int)))
 again x15 x16
 else none
 else
 kn i0_0 i0_3
noncomputable def loop_marker_ReadUint_0 {R : Type} (r0_1 : Rows) (i0_2 : Int) : Nat → Int → Int → (Int → Int → Option R) → Option R
  | 0, _, _, _ => none
  | n + 1, i0_0, i0_3, kn => step_marker_ReadUint_0 r0_1 i0_2 i0_0 i0_3 (fun yi0_0 yi0_3 => loop_marker_ReadUint_0 r0_1 i0_2 n yi0_0 yi0_3 kn) kn
noncomputable def shape_marker_ReadUint_0 : ST := ⟨unds 8 (.int .i64 :: unds 29 (.data [.int .u8] :: .int .i64 :: .int .i64 :: unds 10 [])), [], 37⟩
noncomputable def st_marker_ReadUint_0 (r0_1 : Rows) (i0_2 : Int) (i0_0 i0_3 : Int) : St := shape_marker_ReadUint_0.put [.i i0_0, .r r0_1, .i i0_2, .i i0_3]
noncomputable def hook_marker_ReadUint_0 {R : Type} : LoopG R := fun l kn _ _ => match l with
  | .i i0_0 :: .r r0_1 :: .i i0_2 :: .i i0_3 :: [] => loop_marker_ReadUint_0 r0_1 i0_2 (fuel_marker_ReadUint_0 i0_0 r0_1 i0_2 i0_3) i0_0 i0_3 (fun yi0_0 yi0_3 => kn (st_marker_ReadUint_0 r0_1 i0_2 yi0_0 yi0_3))
  | _ => none
noncomputable def env_marker_ReadUint {R : Type} : Env R := ⟨Tryz.prog, callNil, fun id => bif Nat.beq id 0 then loopAlt shape_marker_ReadUint_0 hook_marker_ReadUint_0 loopNil else (fun _ _ _ _ _ => none) id, Tryz.f87.results.toList, maskTab 51 [(0, 0x3ccc007), (1, 0x4000007), (2, 0xc0), (3, 0x100000007), (4, 0xc0), (5, 0x107), (6, 0x1c000000100), (7, 0x3c000000100), (8, 0x1c000000500), (9, 0x1c000000100), (10, 0x1c000000100), (11, 0xc0)], maskAt [(1, 37), (2, 2), (4, 18), (6, 20), (8, 26), (10, 28), (12, 29), (14, 41), (16, 42), (18, 45), (20, 51), (22, 53)], noSort⟩
theorem step_marker_ReadUint_0_eq {R : Type} (r0_1 : Rows) (i0_2 : Int) (si0_0 si0_3 : Int) (kn : St → Option R) (kx : Nat → St → Option R) (kr : V → Option R) (n : Nat) (i0_0 i0_3 : Int) :
    loopN env_marker_ReadUint 0 (loopAt Tryz.f87 0) (st_marker_ReadUint_0 r0_1 i0_2 si0_0 si0_3) kn kx kr (n + 1) (st_marker_ReadUint_0 r0_1 i0_2 i0_0 i0_3) =
    step_marker_ReadUint_0 r0_1 i0_2 i0_0 i0_3 (fun yi0_0 yi0_3 => loopN env_marker_ReadUint 0 (loopAt Tryz.f87 0) (st_marker_ReadUint_0 r0_1 i0_2 si0_0 si0_3) kn kx kr n (st_marker_ReadUint_0 r0_1 i0_2 yi0_0 yi0_3)) (fun yi0_0 yi0_3 => kn (st_marker_ReadUint_0 r0_1 i0_2 yi0_0 yi0_3)) := by kernel_rfl
theorem loop_marker_ReadUint_0_eq {R : Type} (r0_1 : Rows) (i0_2 : Int) (si0_0 si0_3 : Int) (kn : St → Option R) (kx : Nat → St → Option R) (kr : V → Option R) : ∀ (n : Nat) (i0_0 i0_3 : Int),
    loop_marker_ReadUint_0 r0_1 i0_2 n i0_0 i0_3 (fun yi0_0 yi0_3 => kn (st_marker_ReadUint_0 r0_1 i0_2 yi0_0 yi0_3)) = loopN env_marker_ReadUint 0 (loopAt Tryz.f87 0) (st_marker_ReadUint_0 r0_1 i0_2 si0_0 si0_3) kn kx kr n (st_marker_ReadUint_0 r0_1 i0_2 i0_0 i0_3)
  | 0, _, _ => rfl
  | n + 1, i0_0, i0_3 => by
    rw [step_marker_ReadUint_0_eq, loop_marker_ReadUint_0]
    congr 1
    funext yi0_0 yi0_3
    exact loop_marker_ReadUint_0_eq r0_1 i0_2 si0_0 si0_3 kn kx kr n yi0_0 yi0_3
theorem goodl_marker_ReadUint_0 {R : Type} {rest} (h : GoodL (R := R) env_marker_ReadUint 0 (loopAt Tryz.f87 0) rest) : GoodL (R := R) env_marker_ReadUint 0 (loopAt Tryz.f87 0) (loopAlt shape_marker_ReadUint_0 hook_marker_ReadUint_0 rest) := by
  refine goodL_alt (fun l kn kx kr r h => ?_) h
  unfold hook_marker_ReadUint_0 at h
  split at h
  · rename_i i0_0 r0_1 i0_2 i0_3
    exact ⟨_, (loop_marker_ReadUint_0_eq r0_1 i0_2 i0_0 i0_3 kn kx kr _ i0_0 i0_3).symm.trans h⟩
  · cases h
theorem good_marker_ReadUint_0 {R : Type} : GoodLoop (R := R) env_marker_ReadUint 0 (loopAt Tryz.f87 0) := goodL_loop (g := loopAlt shape_marker_ReadUint_0 hook_marker_ReadUint_0 loopNil) (fun _ _ _ _ => rfl) (goodl_marker_ReadUint_0 goodL_nil)
noncomputable def spec_marker_ReadUint {R : Type} (a0 : Rows) (a1 a2 : Int) (k : V → Option R) : Option R :=
 let b1 : Bool := (decide (a2 < (1 : Int)))
 let b2 : Bool := (decide (a2 > (4 : Int)))
 let b3 : Bool := (bif b1 then true else b2)
 let b4 : Bool := (decide (a1 < (0 : Int)))
 let b5 : Bool := (bif b3 then true else b4)
 bif (b5 == false) then
 let x6 : Int := (((List.length a0) : Nat) : Int)
 bif (decide (a1 > x6)) then
 k (V.tup [(V.int .i64 (0 : Int)), (V.int .i64 (2 : Int))])
 else
 let x7 : Int := (((List.length a0) : Nat) : Int)
 let x8 : Int := (IntKind.wrap .i64 (x7 - a1))
 bif (decide (x8 < a2)) then
 k (V.tup [(V.int .i64 (0 : Int)), (V.int .i64 (7 : Int))])
 else
 let x9 : Int := (IntKind.wrap .i64 (a1 + a2))
 bif (((decide ((0 : Int) ≤ a1)) && (decide (a1 ≤ x9))) && (decide (x9 ≤ (((List.length a0) : Nat) : Int)))) then
 let r10 : Rows := (List.drop (Int.toNat a1) (List.take (Int.toNat x9) a0))
 let x11 : Int := (((List.length r10) : Nat) : Int)
 loop_marker_ReadUint_0 r10 x11 (fuel_marker_ReadUint_0 (0 : Int) r10 x11 (0 : Int)) (0 : Int) (0 : Int) (fun i0_z17 i0_z18 =>
 k (V.tup [(V.int .i64 i0_z17), (V.int .i64 (0 : Int))]))
 else none
 else
 k (V.tup [(V.int .i64 (0 : Int)), (V.int .i64 (2 : Int))])
abbrev av_marker_ReadUint (a0 : Rows) (a1 a2 : Int) : List V := [(V.data [.int .u8] a0), (V.int .i64 a1), (V.int .i64 a2)]
theorem spec_marker_ReadUint_eq {R : Type} (a0 : Rows) (a1 a2 : Int) (k : V → Option R) : fnK env_marker_ReadUint Tryz.f87 (av_marker_ReadUint a0 a1 a2) k = spec_marker_ReadUint a0 a1 a2 k := by kernel_rfl
theorem ok_marker_ReadUint (a0 : Rows) (a1 a2 : Int) {v : V} (h : Real (av_marker_ReadUint a0 a1 a2) → spec_marker_ReadUint a0 a1 a2 some = some v) : FunOK Tryz.prog 87 (av_marker_ReadUint a0 a1 a2) v :=
  fn_ok (fn := Tryz.f87) (c := bodyOf Tryz.f87) (E := env_marker_ReadUint) ⟨by kernel_rfl, goodNil, rfl, goodS_no⟩ rfl (by kernel_rfl) (by kernel_rfl) (by kernel_rfl)
  (loopsOK_of _ (by
    have e : loopsOf (bodyOf Tryz.f87) = [(0, loopAt Tryz.f87 0)] := by kernel_rfl
    rw [e]
    simp only [List.forall_mem_cons, List.not_mem_nil, false_implies, implies_true, and_true]
    exact good_marker_ReadUint_0))
  (fun hr => (spec_marker_ReadUint_eq a0 a1 a2 some).trans (h hr))
theorem mk_marker_ReadUint (h : ∀ (a0 : Rows) (a1 a2 : Int), pre_marker_ReadUint a0 a1 a2 = true → Real (av_marker_ReadUint a0 a1 a2) → spec_marker_ReadUint a0 a1 a2 some = some (V.tup [(V.int .i64 (m_marker_ReadUint a0 a1 a2).1), (V.int .i64 (m_marker_ReadUint a0 a1 a2).2)])) : G_marker_ReadUint := goodHook1 fun l hp => by
  unfold hp_marker_ReadUint at hp
  split at hp
  · rename_i x0 x1 x2
    exact ok_marker_ReadUint x0 x1 x2 fun hr => h x0 x1 x2 hp hr
  · cases hp
noncomputable def env_rect_Valid {R : Type} : Env R := ⟨Tryz.prog, callNil, fun _ _ _ _ _ => none, Tryz.f26.results.toList, maskTab 35 [(0, 0x39f39cf82), (1, 0x4)], maskAt [(2, 2)], noSort⟩
noncomputable def spec_rect_Valid {R : Type} (a0 : SRect) (k : V → Option R) : Option R :=
 let b1 : Bool := (decide ((0 : Int) ≤ a0.X0))
 let b2 : Bool := (bif b1 then (decide (a0.X0 ≤ a0.X1)) else false)
 let b3 : Bool := (decide (a0.X1 ≤ (4096 : Int)))
 let b4 : Bool := (bif b2 then b3 else false)
 let b5 : Bool := (decide ((0 : Int) ≤ a0.Y0))
 let b6 : Bool := (bif b4 then b5 else false)
 let b7 : Bool := (bif b6 then (decide (a0.Y0 ≤ a0.Y1)) else false)
 let b8 : Bool := (decide (a0.Y1 ≤ (4096 : Int)))
 let b9 : Bool := (bif b7 then b8 else false)
 k (V.bool b9)
abbrev av_rect_Valid (a0 : SRect) : List V := [(SRect.v a0)]
theorem spec_rect_Valid_eq {R : Type} (a0 : SRect) (k : V → Option R) : fnK env_rect_Valid Tryz.f26 (av_rect_Valid a0) k = spec_rect_Valid a0 k := by kernel_rfl
theorem ok_rect_Valid (a0 : SRect) {v : V} (h : Real (av_rect_Valid a0) → spec_rect_Valid a0 some = some v) : FunOK Tryz.prog 26 (av_rect_Valid a0) v :=
  fn_ok (fn := Tryz.f26) (c := bodyOf Tryz.f26) (E := env_rect_Valid) ⟨by kernel_rfl, goodNil, rfl, goodS_no⟩ rfl (by kernel_rfl) (by kernel_rfl) (by kernel_rfl)
  (loopsOK_of _ (by
    have e : loopsOf (bodyOf Tryz.f26) = [] := by kernel_rfl
    rw [e]
    intro p hp; cases hp))
  (fun hr => (spec_rect_Valid_eq a0 some).trans (h hr))
theorem mk_rect_Valid (h : ∀ (a0 : SRect), Real (av_rect_Valid a0) → spec_rect_Valid a0 some = some (V.bool (m_rect_Valid a0))) : G_rect_Valid := goodHook1 fun l hp => by
  unfold hp_rect_Valid at hp
  split at hp
  · rename_i x0 x1 x2 x3
    exact ok_rect_Valid (SRect.mk x0 x1 x2 x3) fun hr => h (SRect.mk x0 x1 x2 x3) hr
  · cases hp
theorem au_rect_Valid (a0 : SRect) : spec_rect_Valid a0 some = some ((fun (m : Bool) => (V.bool m)) (m_rect_Valid a0)) := by
  repeat' (first | rfl | refine bif_t (v := (fun (m : Bool) => (V.bool m))) ?_ ?_)
theorem good_rect_Valid_of : G_rect_Valid := mk_rect_Valid (fun _ _ => au_rect_Valid _)
noncomputable def env_rect_CeilDiv {R : Type} : Env R := ⟨Tryz.prog, callNil, fun _ _ _ _ _ => none, Tryz.f41.results.toList, maskTab 18 [(0, 0x3), (1, 0x83), (2, 0x10), (3, 0x23), (4, 0x4020), (5, 0x20), (6, 0x10)], maskAt [(2, 1), (4, 3), (6, 4), (8, 8), (10, 12), (12, 15)], noSort⟩
noncomputable def spec_rect_CeilDiv {R : Type} (a0 a1 : Int) (k : V → Option R) : Option R :=
 let b1 : Bool := (decide (a1 < (1 : Int)))
 bif b1 then
 k (V.int .i64 (0 : Int))
 else
 bif (a1 != 0) then
 let x2 : Int := (IntKind.wrap .i64 (Int.tdiv a0 a1))
 bif (a1 != 0) then
 let b3 : Bool := (decide ((Int.tmod a0 a1) > (0 : Int)))
 bif b3 then
 let x4 : Int := (IntKind.wrap .i64 (x2 + (1 : Int)))
 k (V.int .i64 x4)
 else
 k (V.int .i64 x2)
 else none
 else none
abbrev av_rect_CeilDiv (a0 a1 : Int) : List V := [(V.int .i64 a0), (V.int .i64 a1)]
theorem spec_rect_CeilDiv_eq {R : Type} (a0 a1 : Int) (k : V → Option R) : fnK env_rect_CeilDiv Tryz.f41 (av_rect_CeilDiv a0 a1) k = spec_rect_CeilDiv a0 a1 k := by kernel_rfl
theorem ok_rect_CeilDiv (a0 a1 : Int) {v : V} (h : Real (av_rect_CeilDiv a0 a1) → spec_rect_CeilDiv a0 a1 some = some v) : FunOK Tryz.prog 41 (av_rect_CeilDiv a0 a1) v :=
  fn_ok (fn := Tryz.f41) (c := bodyOf Tryz.f41) (E := env_rect_CeilDiv) ⟨by kernel_rfl, goodNil, rfl, goodS_no⟩ rfl (by kernel_rfl) (by kernel_rfl) (by kernel_rfl)
  (loopsOK_of _ (by
    have e : loopsOf (bodyOf Tryz.f41) = [] := by kernel_rfl
    rw [e]
    intro p hp; cases hp))
  (fun hr => (spec_rect_CeilDiv_eq a0 a1 some).trans (h hr))
theorem mk_rect_CeilDiv (h : ∀ (a0 a1 : Int), Real (av_rect_CeilDiv a0 a1) → spec_rect_CeilDiv a0 a1 some = some (V.int .i64 (m_rect_CeilDiv a0 a1))) : G_rect_CeilDiv := goodHook1 fun l hp => by
  unfold hp_rect_CeilDiv at hp
  split at hp
  · rename_i x0 x1
    exact ok_rect_CeilDiv x0 x1 fun hr => h x0 x1 hr
  · cases hp
theorem au_rect_CeilDiv (a0 a1 : Int) : pre_rect_CeilDiv a0 a1 = true → spec_rect_CeilDiv a0 a1 some = some ((fun (m : Int) => (V.int .i64 m)) (m_rect_CeilDiv a0 a1)) := by
  repeat' (first | exact fun _ => rfl | exact fun h => absurd h (by decide) | refine bif_p (v := (fun (m : Int) => (V.int .i64 m))) ?_ ?_)
theorem good_rect_CeilDiv_of : G_rect_CeilDiv := mk_rect_CeilDiv (fun _ _ _ => au_rect_CeilDiv _ _ (pt_rect_CeilDiv _ _))
noncomputable def env_rect_Reduce {R : Type} : Env R := ⟨Tryz.prog, callCons 26 c_rect_Valid (callCons 41 c_rect_CeilDiv callNil), fun _ _ _ _ _ => none, Tryz.f16.results.toList, maskTab 44 [(0, 0x199984e), (1, 0x200004e), (2, 0x40), (3, 0x40)], maskAt [(2, 2), (4, 21), (6, 23)], noSort⟩
noncomputable def spec_rect_Reduce {R : Type} (a0 : SRect) (a1 a2 : Int) (k : V → Option R) : Option R :=
 let c1 : Bool := (m_rect_Valid a0)
 let b2 : Bool := (decide (a1 < (1 : Int)))
 let b3 : Bool := (bif (!c1) then true else b2)
 let b4 : Bool := (decide (a1 > (4096 : Int)))
 let b5 : Bool := (bif b3 then true else b4)
 let b6 : Bool := (decide (a2 < (1 : Int)))
 let b7 : Bool := (bif b5 then true else b6)
 let b8 : Bool := (decide (a2 > (4096 : Int)))
 let b9 : Bool := (bif b7 then true else b8)
 bif b9 then
 k (V.agg [(V.int .i64 (0 : Int)), (V.int .i64 (0 : Int)), (V.int .i64 (0 : Int)), (V.int .i64 (0 : Int))])
 else
 let c10 : Int := (m_rect_CeilDiv a0.X0 a1)
 let c11 : Int := (m_rect_CeilDiv a0.Y0 a2)
 let c12 : Int := (m_rect_CeilDiv a0.X1 a1)
 let c13 : Int := (m_rect_CeilDiv a0.Y1 a2)
 k (V.agg [(V.int .i64 c10), (V.int .i64 c11), (V.int .i64 c12), (V.int .i64 c13)])
abbrev av_rect_Reduce (a0 : SRect) (a1 a2 : Int) : List V := [(SRect.v a0), (V.int .i64 a1), (V.int .i64 a2)]
theorem spec_rect_Reduce_eq {R : Type} (a0 : SRect) (a1 a2 : Int) (k : V → Option R) : fnK env_rect_Reduce Tryz.f16 (av_rect_Reduce a0 a1 a2) k = spec_rect_Reduce a0 a1 a2 k := by kernel_rfl
theorem ok_rect_Reduce (h_rect_Valid : G_rect_Valid) (h_rect_CeilDiv : G_rect_CeilDiv) (a0 : SRect) (a1 a2 : Int) {v : V} (h : Real (av_rect_Reduce a0 a1 a2) → spec_rect_Reduce a0 a1 a2 some = some v) : FunOK Tryz.prog 16 (av_rect_Reduce a0 a1 a2) v :=
  fn_ok (fn := Tryz.f16) (c := bodyOf Tryz.f16) (E := env_rect_Reduce) ⟨by kernel_rfl, (goodCons h_rect_Valid (goodCons h_rect_CeilDiv goodNil)), rfl, goodS_no⟩ rfl (by kernel_rfl) (by kernel_rfl) (by kernel_rfl)
  (loopsOK_of _ (by
    have e : loopsOf (bodyOf Tryz.f16) = [] := by kernel_rfl
    rw [e]
    intro p hp; cases hp))
  (fun hr => (spec_rect_Reduce_eq a0 a1 a2 some).trans (h hr))
theorem mk_rect_Reduce (h_rect_Valid : G_rect_Valid) (h_rect_CeilDiv : G_rect_CeilDiv) (h : ∀ (a0 : SRect) (a1 a2 : Int), Real (av_rect_Reduce a0 a1 a2) → spec_rect_Reduce a0 a1 a2 some = some (SRect.v (m_rect_Reduce a0 a1 a2))) : G_rect_Reduce := goodHook1 fun l hp => by
  unfold hp_rect_Reduce at hp
  split at hp
  · rename_i x0 x1 x2 x3 x4 x5
    exact ok_rect_Reduce h_rect_Valid h_rect_CeilDiv (SRect.mk x0 x1 x2 x3) x4 x5 fun hr => h (SRect.mk x0 x1 x2 x3) x4 x5 hr
  · cases hp
theorem au_rect_Reduce (a0 : SRect) (a1 a2 : Int) : spec_rect_Reduce a0 a1 a2 some = some ((fun (m : SRect) => (SRect.v m)) (m_rect_Reduce a0 a1 a2)) := by
  repeat' (first | rfl | refine bif_t (v := (fun (m : SRect) => (SRect.v m))) ?_ ?_)
theorem good_rect_Reduce_of (h_rect_Valid : G_rect_Valid) (h_rect_CeilDiv : G_rect_CeilDiv) : G_rect_Reduce := mk_rect_Reduce h_rect_Valid h_rect_CeilDiv (fun _ _ _ _ => au_rect_Reduce _ _ _)
noncomputable def env_rect_Empty {R : Type} : Env R := ⟨Tryz.prog, callNil, fun _ _ _ _ _ => none, Tryz.f39.results.toList, maskTab 15 [(0, 0x3e02), (1, 0x4)], maskAt [(2, 2)], noSort⟩
noncomputable def spec_rect_Empty {R : Type} (a0 : SRect) (k : V → Option R) : Option R :=
 let b1 : Bool := (bif (decide (a0.X0 ≥ a0.X1)) then true else (decide (a0.Y0 ≥ a0.Y1)))
 k (V.bool b1)
abbrev av_rect_Empty (a0 : SRect) : List V := [(SRect.v a0)]
theorem spec_rect_Empty_eq {R : Type} (a0 : SRect) (k : V → Option R) : fnK env_rect_Empty Tryz.f39 (av_rect_Empty a0) k = spec_rect_Empty a0 k := by kernel_rfl
theorem ok_rect_Empty (a0 : SRect) {v : V} (h : Real (av_rect_Empty a0) → spec_rect_Empty a0 some = some v) : FunOK Tryz.prog 39 (av_rect_Empty a0) v :=
  fn_ok (fn := Tryz.f39) (c := bodyOf Tryz.f39) (E := env_rect_Empty) ⟨by kernel_rfl, goodNil, rfl, goodS_no⟩ rfl (by kernel_rfl) (by kernel_rfl) (by kernel_rfl)
  (loopsOK_of _ (by
    have e : loopsOf (bodyOf Tryz.f39) = [] := by kernel_rfl
    rw [e]
    intro p hp; cases hp))
  (fun hr => (spec_rect_Empty_eq a0 some).trans (h hr))
theorem mk_rect_Empty (h : ∀ (a0 : SRect), Real (av_rect_Empty a0) → spec_rect_Empty a0 some = some (V.bool (m_rect_Empty a0))) : G_rect_Empty := goodHook1 fun l hp => by
  unfold hp_rect_Empty at hp
  split at hp
  · rename_i x0 x1 x2 x3
    exact ok_rect_Empty (SRect.mk x0 x1 x2 x3) fun hr => h (SRect.mk x0 x1 x2 x3) hr
  · cases hp
theorem au_rect_Empty (a0 : SRect) : spec_rect_Empty a0 some = some ((fun (m : Bool) => (V.bool m)) (m_rect_Empty a0)) := by
  repeat' (first | rfl | refine bif_t (v := (fun (m : Bool) => (V.bool m))) ?_ ?_)
theorem good_rect_Empty_of : G_rect_Empty := mk_rect_Empty (fun _ _ => au_rect_Empty _)
noncomputable def fuel_params_within_0 (i0_0 i0_1 : Int) (r0_2 : Rows) (i0_3 i0_4 : Int) : Nat :=
 Int.toNat (i0_3 - i0_4) + 1
noncomputable def step_params_within_0 {R : Type} (i0_0 i0_1 : Int) (r0_2 : Rows) (i0_3 : Int) (i0_4 : Int) (again : Int → Option R) (kn : Int → Option R) (kr : V → Option R) : Option R :=
 bif (decide (i0_4 < i0_3)) then
 bif (inR i0_4 (List.length r0_2)) then
 let w2 : List V := (List.getD r0_2 (Int.toNat i0_4) [])
 let x3 : Int := (V.toInt (List.getD w2 0 V.undef))
 let b4 : Bool := (bif (decide (x3 < i0_0)) then true else (decide (x3 > i0_1)))
 bif b4 then
 kr (V.bool false)
 else
 let x5 : Int := (IntKind.wrap .i64 (i0_4 + (1 : Int)))
 again x5
 else none
 else
 kn i0_4
noncomputable def loop_params_within_0 {R : Type} (i0_0 i0_1 : Int) (r0_2 : Rows) (i0_3 : Int) : Nat → Int → (Int → Option R) → (V → Option R) → Option R
  | 0, _, _, _ => none
  | n + 1, i0_4, kn, kr => step_params_within_0 i0_0 i0_1 r0_2 i0_3 i0_4 (fun yi0_4 => loop_params_within_0 i0_0 i0_1 r0_2 i0_3 n yi0_4 kn kr) kn kr
noncomputable def shape_params_within_0 : ST := ⟨.int .i64 :: .int .i64 :: unds 7 (.data Sheadseg_failure.sh :: .int .i64 :: .int .i64 :: unds 12 []), [], 4⟩
noncomputable def st_params_within_0 (i0_0 i0_1 : Int) (r0_2 : Rows) (i0_3 : Int) (i0_4 : Int) : St := shape_params_within_0.put [.i i0_0, .i i0_1, .r r0_2, .i i0_3, .i i0_4]
noncomputable def hook_params_within_0 {R : Type} : LoopG R := fun l kn _ kr => match l with
  | .i i0_0 :: .i i0_1 :: .r r0_2 :: .i i0_3 :: .i i0_4 :: [] => loop_params_within_0 i0_0 i0_1 r0_2 i0_3 (fuel_params_within_0 i0_0 i0_1 r0_2 i0_3 i0_4) i0_4 (fun yi0_4 => kn (st_params_within_0 i0_0 i0_1 r0_2 i0_3 yi0_4)) kr
  | _ => none
noncomputable def env_params_within {R : Type} : Env R := ⟨Tryz.prog, callNil, fun id => bif Nat.beq id 0 then loopAlt shape_params_within_0 hook_params_within_0 loopNil else (fun _ _ _ _ _ => none) id, Tryz.f40.results.toList, maskTab 24 [(0, 0x380007), (1, 0x380e03), (2, 0x381e03), (3, 0x380f03), (4, 0x780e03), (5, 0x40), (6, 0x380e03), (7, 0x40)], maskAt [(1, 4), (2, 1), (4, 8), (6, 9), (8, 12), (10, 20), (12, 21), (14, 23)], noSort⟩
theorem step_params_within_0_eq {R : Type} (i0_0 i0_1 : Int) (r0_2 : Rows) (i0_3 : Int) (si0_4 : Int) (kn : St → Option R) (kx : Nat → St → Option R) (kr : V → Option R) (n : Nat) (i0_4 : Int) :
    loopN env_params_within 0 (loopAt Tryz.f40 0) (st_params_within_0 i0_0 i0_1 r0_2 i0_3 si0_4) kn kx kr (n + 1) (st_params_within_0 i0_0 i0_1 r0_2 i0_3 i0_4) =
    step_params_within_0 i0_0 i0_1 r0_2 i0_3 i0_4 (fun yi0_4 => loopN env_params_within 0 (loopAt Tryz.f40 0) (st_params_within_0 i0_0 i0_1 r0_2 i0_3 si0_4) kn kx kr n (st_params_within_0 i0_0 i0_1 r0_2 i0_3 yi0_4)) (fun yi0_4 => kn (st_params_within_0 i0_0 i0_1 r0_2 i0_3 yi0_4)) kr := by kernel_rfl
theorem loop_params_within_0_eq {R : Type} (i0_0 i0_1 : Int) (r0_2 : Rows) (i0_3 : Int) (si0_4 : Int) (kn : St → Option R) (kx : Nat → St → Option R) (kr : V → Option R) : ∀ (n : Nat) (i0_4 : Int),
    loop_params_within_0 i0_0 i0_1 r0_2 i0_3 n i0_4 (fun yi0_4 => kn (st_params_within_0 i0_0 i0_1 r0_2 i0_3 yi0_4)) kr = loopN env_params_within 0 (loopAt Tryz.f40 0) (st_params_within_0 i0_0 i0_1 r0_2 i0_3 si0_4) kn kx kr n (st_params_within_0 i0_0 i0_1 r0_2 i0_3 i0_4)
  | 0, _ => rfl
  | n + 1, i0_4 => by
    rw [step_params_within_0_eq, loop_params_within_0]
    congr 1
    funext yi0_4
    exact loop_params_within_0_eq i0_0 i0_1 r0_2 i0_3 si0_4 kn kx kr n yi0_4
theorem goodl_params_within_0 {R : Type} {rest} (h : GoodL (R := R) env_params_within 0 (loopAt Tryz.f40 0) rest) : GoodL (R := R) env_params_within 0 (loopAt Tryz.f40 0) (loopAlt shape_params_within_0 hook_params_within_0 rest) := by
  refine goodL_alt (fun l kn kx kr r h => ?_) h
  unfold hook_params_within_0 at h
  split at h
  · rename_i i0_0 i0_1 r0_2 i0_3 i0_4
    exact ⟨_, (loop_params_within_0_eq i0_0 i0_1 r0_2 i0_3 i0_4 kn kx kr _ i0_4).symm.trans h⟩
  · cases h
theorem good_params_within_0 {R : Type} : GoodLoop (R := R) env_params_within 0 (loopAt Tryz.f40 0) := goodL_loop (g := loopAlt shape_params_within_0 hook_params_within_0 loopNil) (fun _ _ _ _ => rfl) (goodl_params_within_0 goodL_nil)
noncomputable def spec_params_within {R : Type} (a0 a1 : Int) (a2 : Rows) (k : V → Option R) : Option R :=
 let x1 : Int := (((List.length a2) : Nat) : Int)
 loop_params_within_0 a0 a1 a2 x1 (fuel_params_within_0 a0 a1 a2 x1 (0 : Int)) (0 : Int) (fun i0_z6 =>
 k (V.bool true)) k
abbrev av_params_within (a0 a1 : Int) (a2 : Rows) : List V := [(V.int .i64 a0), (V.int .i64 a1), (V.data Sheadseg_failure.sh a2)]
theorem spec_params_within_eq {R : Type} (a0 a1 : Int) (a2 : Rows) (k : V → Option R) : fnK env_params_within Tryz.f40 (av_params_within a0 a1 a2) k = spec_params_within a0 a1 a2 k := by kernel_rfl
theorem ok_params_within (a0 a1 : Int) (a2 : Rows) {v : V} (h : Real (av_params_within a0 a1 a2) → spec_params_within a0 a1 a2 some = some v) : FunOK Tryz.prog 40 (av_params_within a0 a1 a2) v :=
  fn_ok (fn := Tryz.f40) (c := bodyOf Tryz.f40) (E := env_params_within) ⟨by kernel_rfl, goodNil, rfl, goodS_no⟩ rfl (by kernel_rfl) (by kernel_rfl) (by kernel_rfl)
  (loopsOK_of _ (by
    have e : loopsOf (bodyOf Tryz.f40) = [(0, loopAt Tryz.f40 0)] := by kernel_rfl
    rw [e]
    simp only [List.forall_mem_cons, List.not_mem_nil, false_implies, implies_true, and_true]
    exact good_params_within_0))
  (fun hr => (spec_params_within_eq a0 a1 a2 some).trans (h hr))
theorem mk_params_within (h : ∀ (a0 a1 : Int) (a2 : Rows), pre_params_within a0 a1 a2 = true → Real (av_params_within a0 a1 a2) → spec_params_within a0 a1 a2 some = some (V.bool (m_params_within a0 a1 a2))) : G_params_within := goodHook1 fun l hp => by
  unfold hp_params_within at hp
  split at hp
  · rename_i x0 x1 x2
    exact ok_params_within x0 x1 x2 fun hr => h x0 x1 x2 hp hr
  · cases hp
noncomputable def env_rect_FloorDiv {R : Type} : Env R := ⟨Tryz.prog, callNil, fun _ _ _ _ _ => none, Tryz.f42.results.toList, maskTab 18 [(0, 0x3), (1, 0x83), (2, 0x10), (3, 0x23), (4, 0x4020), (5, 0x20), (6, 0x10)], maskAt [(2, 1), (4, 3), (6, 4), (8, 8), (10, 12), (12, 15)], noSort⟩
noncomputable def spec_rect_FloorDiv {R : Type} (a0 a1 : Int) (k : V → Option R) : Option R :=
 let b1 : Bool := (decide (a1 < (1 : Int)))
 bif b1 then
 k (V.int .i64 (0 : Int))
 else
 bif (a1 != 0) then
 let x2 : Int := (IntKind.wrap .i64 (Int.tdiv a0 a1))
 bif (a1 != 0) then
 let b3 : Bool := (decide ((Int.tmod a0 a1) < (0 : Int)))
 bif b3 then
 let x4 : Int := (IntKind.wrap .i64 (x2 - (1 : Int)))
 k (V.int .i64 x4)
 else
 k (V.int .i64 x2)
 else none
 else none
abbrev av_rect_FloorDiv (a0 a1 : Int) : List V := [(V.int .i64 a0), (V.int .i64 a1)]
theorem spec_rect_FloorDiv_eq {R : Type} (a0 a1 : Int) (k : V → Option R) : fnK env_rect_FloorDiv Tryz.f42 (av_rect_FloorDiv a0 a1) k = spec_rect_FloorDiv a0 a1 k := by kernel_rfl
theorem ok_rect_FloorDiv (a0 a1 : Int) {v : V} (h : Real (av_rect_FloorDiv a0 a1) → spec_rect_FloorDiv a0 a1 some = some v) : FunOK Tryz.prog 42 (av_rect_FloorDiv a0 a1) v :=
  fn_ok (fn := Tryz.f42) (c := bodyOf Tryz.f42) (E := env_rect_FloorDiv) ⟨by kernel_rfl, goodNil, rfl, goodS_no⟩ rfl (by kernel_rfl) (by kernel_rfl) (by kernel_rfl)
  (loopsOK_of _ (by
    have e : loopsOf (bodyOf Tryz.f42) = [] := by kernel_rfl
    rw [e]
    intro p hp; cases hp))
  (fun hr => (spec_rect_FloorDiv_eq a0 a1 some).trans (h hr))
theorem mk_rect_FloorDiv (h : ∀ (a0 a1 : Int), Real (av_rect_FloorDiv a0 a1) → spec_rect_FloorDiv a0 a1 some = some (V.int .i64 (m_rect_FloorDiv a0 a1))) : G_rect_FloorDiv := goodHook1 fun l hp => by
  unfold hp_rect_FloorDiv at hp
  split at hp
  · rename_i x0 x1
    exact ok_rect_FloorDiv x0 x1 fun hr => h x0 x1 hr
  · cases hp
theorem au_rect_FloorDiv (a0 a1 : Int) : pre_rect_FloorDiv a0 a1 = true → spec_rect_FloorDiv a0 a1 some = some ((fun (m : Int) => (V.int .i64 m)) (m_rect_FloorDiv a0 a1)) := by
  repeat' (first | exact fun _ => rfl | exact fun h => absurd h (by decide) | refine bif_p (v := (fun (m : Int) => (V.int .i64 m))) ?_ ?_)
theorem good_rect_FloorDiv_of : G_rect_FloorDiv := mk_rect_FloorDiv (fun _ _ _ => au_rect_FloorDiv _ _ (pt_rect_FloorDiv _ _))
noncomputable def env_rect_Area {R : Type} : Env R := ⟨Tryz.prog, callCons 26 c_rect_Valid callNil, fun _ _ _ _ _ => none, Tryz.f43.results.toList, maskTab 17 [(0, 0x2), (1, 0x22), (2, 0x4), (3, 0x4)], maskAt [(2, 2), (4, 5), (6, 6)], noSort⟩
noncomputable def spec_rect_Area {R : Type} (a0 : SRect) (k : V → Option R) : Option R :=
 let c1 : Bool := (m_rect_Valid a0)
 bif (!c1) then
 k (V.int .i64 (0 : Int))
 else
 let x2 : Int := (IntKind.wrap .i64 (a0.X1 - a0.X0))
 let x3 : Int := (IntKind.wrap .i64 (a0.Y1 - a0.Y0))
 let x4 : Int := (IntKind.wrap .i64 (x2 * x3))
 k (V.int .i64 x4)
abbrev av_rect_Area (a0 : SRect) : List V := [(SRect.v a0)]
theorem spec_rect_Area_eq {R : Type} (a0 : SRect) (k : V → Option R) : fnK env_rect_Area Tryz.f43 (av_rect_Area a0) k = spec_rect_Area a0 k := by kernel_rfl
theorem ok_rect_Area (h_rect_Valid : G_rect_Valid) (a0 : SRect) {v : V} (h : Real (av_rect_Area a0) → spec_rect_Area a0 some = some v) : FunOK Tryz.prog 43 (av_rect_Area a0) v :=
  fn_ok (fn := Tryz.f43) (c := bodyOf Tryz.f43) (E := env_rect_Area) ⟨by kernel_rfl, (goodCons h_rect_Valid goodNil), rfl, goodS_no⟩ rfl (by kernel_rfl) (by kernel_rfl) (by kernel_rfl)
  (loopsOK_of _ (by
    have e : loopsOf (bodyOf Tryz.f43) = [] := by kernel_rfl
    rw [e]
    intro p hp; cases hp))
  (fun hr => (spec_rect_Area_eq a0 some).trans (h hr))
theorem mk_rect_Area (h_rect_Valid : G_rect_Valid) (h : ∀ (a0 : SRect), Real (av_rect_Area a0) → spec_rect_Area a0 some = some (V.int .i64 (m_rect_Area a0))) : G_rect_Area := goodHook1 fun l hp => by
  unfold hp_rect_Area at hp
  split at hp
  · rename_i x0 x1 x2 x3
    exact ok_rect_Area h_rect_Valid (SRect.mk x0 x1 x2 x3) fun hr => h (SRect.mk x0 x1 x2 x3) hr
  · cases hp
theorem au_rect_Area (a0 : SRect) : spec_rect_Area a0 some = some ((fun (m : Int) => (V.int .i64 m)) (m_rect_Area a0)) := by
  repeat' (first | rfl | refine bif_t (v := (fun (m : Int) => (V.int .i64 m))) ?_ ?_)
theorem good_rect_Area_of (h_rect_Valid : G_rect_Valid) : G_rect_Area := mk_rect_Area h_rect_Valid (fun _ _ => au_rect_Area _)
noncomputable def fuel_params_Header_0 (r0_0 : Rows) (i0_1 i0_2 : Int) (a0 : SHeader) : Nat :=
 Int.toNat (i0_1 - i0_2) + 1
noncomputable def step_params_Header_0 {R : Type} (r0_0 : Rows) (i0_1 : Int) (a0 : SHeader) (i0_2 : Int) (again : Int → Option R) (kn : Int → Option R) (kr : V → Option R) : Option R :=
 bif (decide (i0_2 < i0_1)) then
 bif (inR i0_2 (List.length r0_0)) then
 let w7 : List V := (List.getD r0_0 (Int.toNat i0_2) [])
 let s8 : SComponent := (SComponent.of w7)
 bif (pre_params_within (1 : Int) (16 : Int) [[(V.int .i64 s8.Depth)]]) then
 let c9 : Bool := (m_params_within (1 : Int) (16 : Int) [[(V.int .i64 s8.Depth)]])
 bif ((!c9) == false) then
 bif (pre_params_within (1 : Int) (4 : Int) [[(V.int .i64 s8.DX)], [(V.int .i64 s8.DY)]]) then
 let c10 : Bool := (m_params_within (1 : Int) (4 : Int) [[(V.int .i64 s8.DX)], [(V.int .i64 s8.DY)]])
 bif ((!c10) == false) then
 let c11 : SRect := (m_rect_Reduce a0.Area s8.DX s8.DY)
 let c12 : Bool := (m_rect_Empty c11)
 bif c12 then
 kr (V.int .i64 (12 : Int))
 else
 let x13 : Int := (IntKind.wrap .i64 (i0_2 + (1 : Int)))
 again x13
 else
 kr (V.int .i64 (12 : Int))
 else none
 else
 kr (V.int .i64 (12 : Int))
 else none
 else none
 else
 kn i0_2
noncomputable def loop_params_Header_0 {R : Type} (r0_0 : Rows) (i0_1 : Int) (a0 : SHeader) : Nat → Int → (Int → Option R) → (V → Option R) → Option R
  | 0, _, _, _ => none
  | n + 1, i0_2, kn, kr => step_params_Header_0 r0_0 i0_1 a0 i0_2 (fun yi0_2 => loop_params_Header_0 r0_0 i0_1 a0 n yi0_2 kn kr) kn kr
noncomputable def shape_params_Header_0 : ST := ⟨.undef :: .ptr 0 0 0 :: unds 34 (.data SComponent.sh :: .int .i64 :: .int .i64 :: unds 75 []), [(0, .var SHeader.sh false SHeader.ts)], 33⟩
noncomputable def st_params_Header_0 (r0_0 : Rows) (i0_1 : Int) (a0 : SHeader) (i0_2 : Int) : St := shape_params_Header_0.put [.r r0_0, .i i0_1, .i i0_2, .i a0.Area.X0, .i a0.Area.Y0, .i a0.Area.X1, .i a0.Area.Y1, .i a0.TileW, .i a0.TileH, .r a0.Components]
noncomputable def hook_params_Header_0 {R : Type} : LoopG R := fun l kn _ kr => match l with
  | .r r0_0 :: .i i0_1 :: .i i0_2 :: .i a0_Area_X0 :: .i a0_Area_Y0 :: .i a0_Area_X1 :: .i a0_Area_Y1 :: .i a0_TileW :: .i a0_TileH :: .r a0_Components :: [] => loop_params_Header_0 r0_0 i0_1 (SHeader.mk (SRect.mk a0_Area_X0 a0_Area_Y0 a0_Area_X1 a0_Area_Y1) a0_TileW a0_TileH a0_Components) (fuel_params_Header_0 r0_0 i0_1 i0_2 (SHeader.mk (SRect.mk a0_Area_X0 a0_Area_Y0 a0_Area_X1 a0_Area_Y1) a0_TileW a0_TileH a0_Components)) i0_2 (fun yi0_2 => kn (st_params_Header_0 r0_0 i0_1 (SHeader.mk (SRect.mk a0_Area_X0 a0_Area_Y0 a0_Area_X1 a0_Area_Y1) a0_TileW a0_TileH a0_Components) yi0_2)) kr
  | _ => none
noncomputable def fuel_params_Header_2 (r2_0 : Rows) (i2_1 i2_2 : Int) (a0 : SHeader) : Nat :=
 Int.toNat (i2_1 - i2_2) + 1
noncomputable def step_params_Header_2 {R : Type} (r2_0 : Rows) (i2_1 : Int) (a0 : SHeader) (i2_2 : Int) (again : Int → Option R) (kn : Int → Option R) (kr : V → Option R) : Option R :=
 bif (decide (i2_2 < i2_1)) then
 bif (inR i2_2 (List.length r2_0)) then
 let w24 : List V := (List.getD r2_0 (Int.toNat i2_2) [])
 let s25 : SComponent := (SComponent.of w24)
 let c26 : SRect := (m_rect_Reduce a0.Area s25.DX s25.DY)
 let c27 : Int := (m_rect_Area c26)
 let b28 : Bool := (decide (c27 > (1048576 : Int)))
 bif b28 then
 kr (V.int .i64 (5 : Int))
 else
 let x29 : Int := (IntKind.wrap .i64 (i2_2 + (1 : Int)))
 again x29
 else none
 else
 kn i2_2
noncomputable def loop_params_Header_2 {R : Type} (r2_0 : Rows) (i2_1 : Int) (a0 : SHeader) : Nat → Int → (Int → Option R) → (V → Option R) → Option R
  | 0, _, _, _ => none
  | n + 1, i2_2, kn, kr => step_params_Header_2 r2_0 i2_1 a0 i2_2 (fun yi2_2 => loop_params_Header_2 r2_0 i2_1 a0 n yi2_2 kn kr) kn kr
noncomputable def shape_params_Header_2 : ST := ⟨.undef :: .ptr 0 0 0 :: unds 96 (.data SComponent.sh :: .int .i64 :: .int .i64 :: unds 13 []), [(0, .var SHeader.sh false SHeader.ts)], 106⟩
noncomputable def st_params_Header_2 (r2_0 : Rows) (i2_1 : Int) (a0 : SHeader) (i2_2 : Int) : St := shape_params_Header_2.put [.r r2_0, .i i2_1, .i i2_2, .i a0.Area.X0, .i a0.Area.Y0, .i a0.Area.X1, .i a0.Area.Y1, .i a0.TileW, .i a0.TileH, .r a0.Components]
noncomputable def hook_params_Header_2 {R : Type} : LoopG R := fun l kn _ kr => match l with
  | .r r2_0 :: .i i2_1 :: .i i2_2 :: .i a0_Area_X0 :: .i a0_Area_Y0 :: .i a0_Area_X1 :: .i a0_Area_Y1 :: .i a0_TileW :: .i a0_TileH :: .r a0_Components :: [] => loop_params_Header_2 r2_0 i2_1 (SHeader.mk (SRect.mk a0_Area_X0 a0_Area_Y0 a0_Area_X1 a0_Area_Y1) a0_TileW a0_TileH a0_Components) (fuel_params_Header_2 r2_0 i2_1 i2_2 (SHeader.mk (SRect.mk a0_Area_X0 a0_Area_Y0 a0_Area_X1 a0_Area_Y1) a0_TileW a0_TileH a0_Components)) i2_2 (fun yi2_2 => kn (st_params_Header_2 r2_0 i2_1 (SHeader.mk (SRect.mk a0_Area_X0 a0_Area_Y0 a0_Area_X1 a0_Area_Y1) a0_TileW a0_TileH a0_Components) yi2_2)) kr
  | _ => none
noncomputable def env_params_Header {R : Type} : Env R := ⟨Tryz.prog, callCons 16 c_rect_Reduce (callCons 26 c_rect_Valid (callCons 39 c_rect_Empty (callCons 40 c_params_within (callCons 41 c_rect_CeilDiv (callCons 42 c_rect_FloorDiv (callCons 43 c_rect_Area callNil)))))), fun id => bif Nat.beq id 0 then loopAlt shape_params_Header_0 hook_params_Header_0 loopNil else (fun id => bif Nat.beq id 2 then loopAlt shape_params_Header_2 hook_params_Header_2 loopNil else (fun _ _ _ _ _ => none) id) id, Tryz.f14.results.toList, maskTab 114 [(0, 0x1fe7f0003f3f9c002), (1, 0x1fe7f000400000002), (2, 0x4), (3, 0x1fe7f007000000002), (4, 0x1fe7f00f000000002), (5, 0x1fe7f007000000012), (6, 0x3fe7f007000000002), (7, 0x4), (8, 0x1fe7f007000000002), (9, 0x22), (10, 0x62), (11, 0x1000000000000000000000002), (12, 0x4), (13, 0x1c000000000000000000000002), (14, 0x3c000000000000000000000002), (15, 0x1c000000000000000000000102), (16, 0x1001c000000000000000000000002), (17, 0x4), (18, 0x1c000000000000000000000002), (19, 0x4)], maskAt [(1, 33), (2, 2), (4, 28), (5, 106), (6, 29), (8, 37), (10, 38), (12, 42), (14, 66), (16, 67), (18, 69), (20, 83), (22, 97), (24, 101), (26, 102), (28, 110), (30, 111), (32, 115), (34, 124), (36, 125), (38, 127)], noSort⟩
theorem step_params_Header_0_eq {R : Type} (r0_0 : Rows) (i0_1 : Int) (a0 : SHeader) (si0_2 : Int) (kn : St → Option R) (kx : Nat → St → Option R) (kr : V → Option R) (n : Nat) (i0_2 : Int) :
    loopN env_params_Header 0 (loopAt Tryz.f14 0) (st_params_Header_0 r0_0 i0_1 a0 si0_2) kn kx kr (n + 1) (st_params_Header_0 r0_0 i0_1 a0 i0_2) =
    step_params_Header_0 r0_0 i0_1 a0 i0_2 (fun yi0_2 => loopN env_params_Header 0 (loopAt Tryz.f14 0) (st_params_Header_0 r0_0 i0_1 a0 si0_2) kn kx kr n (st_params_Header_0 r0_0 i0_1 a0 yi0_2)) (fun yi0_2 => kn (st_params_Header_0 r0_0 i0_1 a0 yi0_2)) kr := by kernel_rfl
theorem loop_params_Header_0_eq {R : Type} (r0_0 : Rows) (i0_1 : Int) (a0 : SHeader) (si0_2 : Int) (kn : St → Option R) (kx : Nat → St → Option R) (kr : V → Option R) : ∀ (n : Nat) (i0_2 : Int),
    loop_params_Header_0 r0_0 i0_1 a0 n i0_2 (fun yi0_2 => kn (st_params_Header_0 r0_0 i0_1 a0 yi0_2)) kr = loopN env_params_Header 0 (loopAt Tryz.f14 0) (st_params_Header_0 r0_0 i0_1 a0 si0_2) kn kx kr n (st_params_Header_0 r0_0 i0_1 a0 i0_2)
  | 0, _ => rfl
  | n + 1, i0_2 => by
    rw [step_params_Header_0_eq, loop_params_Header_0]
    congr 1
    funext yi0_2
    exact loop_params_Header_0_eq r0_0 i0_1 a0 si0_2 kn kx kr n yi0_2
theorem goodl_params_Header_0 {R : Type} {rest} (h : GoodL (R := R) env_params_Header 0 (loopAt Tryz.f14 0) rest) : GoodL (R := R) env_params_Header 0 (loopAt Tryz.f14 0) (loopAlt shape_params_Header_0 hook_params_Header_0 rest) := by
  refine goodL_alt (fun l kn kx kr r h => ?_) h
  unfold hook_params_Header_0 at h
  split at h
  · rename_i r0_0 i0_1 i0_2 a0_Area_X0 a0_Area_Y0 a0_Area_X1 a0_Area_Y1 a0_TileW a0_TileH a0_Components
    exact ⟨_, (loop_params_Header_0_eq r0_0 i0_1 (SHeader.mk (SRect.mk a0_Area_X0 a0_Area_Y0 a0_Area_X1 a0_Area_Y1) a0_TileW a0_TileH a0_Components) i0_2 kn kx kr _ i0_2).symm.trans h⟩
  · cases h
theorem step_params_Header_2_eq {R : Type} (r2_0 : Rows) (i2_1 : Int) (a0 : SHeader) (si2_2 : Int) (kn : St → Option R) (kx : Nat → St → Option R) (kr : V → Option R) (n : Nat) (i2_2 : Int) :
    loopN env_params_Header 2 (loopAt Tryz.f14 1) (st_params_Header_2 r2_0 i2_1 a0 si2_2) kn kx kr (n + 1) (st_params_Header_2 r2_0 i2_1 a0 i2_2) =
    step_params_Header_2 r2_0 i2_1 a0 i2_2 (fun yi2_2 => loopN env_params_Header 2 (loopAt Tryz.f14 1) (st_params_Header_2 r2_0 i2_1 a0 si2_2) kn kx kr n (st_params_Header_2 r2_0 i2_1 a0 yi2_2)) (fun yi2_2 => kn (st_params_Header_2 r2_0 i2_1 a0 yi2_2)) kr := by kernel_rfl
theorem loop_params_Header_2_eq {R : Type} (r2_0 : Rows) (i2_1 : Int) (a0 : SHeader) (si2_2 : Int) (kn : St → Option R) (kx : Nat → St → Option R) (kr : V → Option R) : ∀ (n : Nat) (i2_2 : Int),
    loop_params_Header_2 r2_0 i2_1 a0 n i2_2 (fun yi2_2 => kn (st_params_Header_2 r2_0 i2_1 a0 yi2_2)) kr = loopN env_params_Header 2 (loopAt Tryz.f14 1) (st_params_Header_2 r2_0 i2_1 a0 si2_2) kn kx kr n (st_params_Header_2 r2_0 i2_1 a0 i2_2)
  | 0, _ => rfl
  | n + 1, i2_2 => by
    rw [step_params_Header_2_eq, loop_params_Header_2]
    congr 1
    funext yi2_2
    exact loop_params_Header_2_eq r2_0 i2_1 a0 si2_2 kn kx kr n yi2_2
theorem goodl_params_Header_2 {R : Type} {rest} (h : GoodL (R := R) env_params_Header 2 (loopAt Tryz.f14 1) rest) : GoodL (R := R) env_params_Header 2 (loopAt Tryz.f14 1) (loopAlt shape_params_Header_2 hook_params_Header_2 rest) := by
  refine goodL_alt (fun l kn kx kr r h => ?_) h
  unfold hook_params_Header_2 at h
  split at h
  · rename_i r2_0 i2_1 i2_2 a0_Area_X0 a0_Area_Y0 a0_Area_X1 a0_Area_Y1 a0_TileW a0_TileH a0_Components
    exact ⟨_, (loop_params_Header_2_eq r2_0 i2_1 (SHeader.mk (SRect.mk a0_Area_X0 a0_Area_Y0 a0_Area_X1 a0_Area_Y1) a0_TileW a0_TileH a0_Components) i2_2 kn kx kr _ i2_2).symm.trans h⟩
  · cases h
theorem good_params_Header_0 {R : Type} : GoodLoop (R := R) env_params_Header 0 (loopAt Tryz.f14 0) := goodL_loop (g := loopAlt shape_params_Header_0 hook_params_Header_0 loopNil) (fun _ _ _ _ => rfl) (goodl_params_Header_0 goodL_nil)
theorem good_params_Header_2 {R : Type} : GoodLoop (R := R) env_params_Header 2 (loopAt Tryz.f14 1) := goodL_loop (g := loopAlt shape_params_Header_2 hook_params_Header_2 loopNil) (fun _ _ _ _ => rfl) (goodl_params_Header_2 goodL_nil)
noncomputable def spec_params_Header {R : Type} (a0 : SHeader) (k : V → Option R) : Option R :=
 let c1 : Bool := (m_rect_Valid a0.Area)
 bif ((!c1) == false) then
 let c2 : Bool := (m_rect_Empty a0.Area)
 bif (c2 == false) then
 bif (pre_params_within (1 : Int) (4096 : Int) [[(V.int .i64 a0.TileW)], [(V.int .i64 a0.TileH)]]) then
 let c3 : Bool := (m_params_within (1 : Int) (4096 : Int) [[(V.int .i64 a0.TileW)], [(V.int .i64 a0.TileH)]])
 bif ((!c3) == false) then
 let x4 : Int := (((List.length a0.Components) : Nat) : Int)
 bif (pre_params_within (1 : Int) (4 : Int) [[(V.int .i64 x4)]]) then
 let c5 : Bool := (m_params_within (1 : Int) (4 : Int) [[(V.int .i64 x4)]])
 bif (!c5) then
 k (V.int .i64 (12 : Int))
 else
 let x6 : Int := (((List.length a0.Components) : Nat) : Int)
 loop_params_Header_0 a0.Components x6 a0 (fuel_params_Header_0 a0.Components x6 (0 : Int) a0) (0 : Int) (fun i0_z14 =>
 let c15 : Int := (m_rect_CeilDiv a0.Area.X1 a0.TileW)
 let c16 : Int := (m_rect_FloorDiv a0.Area.X0 a0.TileW)
 let x17 : Int := (IntKind.wrap .i64 (c15 - c16))
 let c18 : Int := (m_rect_CeilDiv a0.Area.Y1 a0.TileH)
 let c19 : Int := (m_rect_FloorDiv a0.Area.Y0 a0.TileH)
 let x20 : Int := (IntKind.wrap .i64 (c18 - c19))
 let x21 : Int := (IntKind.wrap .i64 (x17 * x20))
 let b22 : Bool := (decide (x21 > (1024 : Int)))
 bif b22 then
 k (V.int .i64 (5 : Int))
 else
 let x23 : Int := (((List.length a0.Components) : Nat) : Int)
 loop_params_Header_2 a0.Components x23 a0 (fuel_params_Header_2 a0.Components x23 (0 : Int) a0) (0 : Int) (fun i2_z30 =>
 k (V.int .i64 (0 : Int))) k) k
 else none
 else
 k (V.int .i64 (12 : Int))
 else none
 else
 k (V.int .i64 (12 : Int))
 else
 k (V.int .i64 (12 : Int))
abbrev av_params_Header (a0 : SHeader) : List V := [(SHeader.v a0)]
theorem spec_params_Header_eq {R : Type} (a0 : SHeader) (k : V → Option R) : fnK env_params_Header Tryz.f14 (av_params_Header a0) k = spec_params_Header a0 k := by kernel_rfl
theorem ok_params_Header (h_rect_Reduce : G_rect_Reduce) (h_rect_Valid : G_rect_Valid) (h_rect_Empty : G_rect_Empty) (h_params_within : G_params_within) (h_rect_CeilDiv : G_rect_CeilDiv) (h_rect_FloorDiv : G_rect_FloorDiv) (h_rect_Area : G_rect_Area) (a0 : SHeader) {v : V} (h : Real (av_params_Header a0) → spec_params_Header a0 some = some v) : FunOK Tryz.prog 14 (av_params_Header a0) v :=
  fn_ok (fn := Tryz.f14) (c := bodyOf Tryz.f14) (E := env_params_Header) ⟨by kernel_rfl, (goodCons h_rect_Reduce (goodCons h_rect_Valid (goodCons h_rect_Empty (goodCons h_params_within (goodCons h_rect_CeilDiv (goodCons h_rect_FloorDiv (goodCons h_rect_Area goodNil))))))), rfl, goodS_no⟩ rfl (by kernel_rfl) (by kernel_rfl) (by kernel_rfl)
  (loopsOK_of _ (by
    have e : loopsOf (bodyOf Tryz.f14) = [(0, loopAt Tryz.f14 0), (2, loopAt Tryz.f14 1)] := by kernel_rfl
    rw [e]
    simp only [List.forall_mem_cons, List.not_mem_nil, false_implies, implies_true, and_true]
    exact ⟨good_params_Header_0, good_params_Header_2⟩))
  (fun hr => (spec_params_Header_eq a0 some).trans (h hr))
theorem mk_params_Header (h_rect_Reduce : G_rect_Reduce) (h_rect_Valid : G_rect_Valid) (h_rect_Empty : G_rect_Empty) (h_params_within : G_params_within) (h_rect_CeilDiv : G_rect_CeilDiv) (h_rect_FloorDiv : G_rect_FloorDiv) (h_rect_Area : G_rect_Area) (h : ∀ (a0 : SHeader), Real (av_params_Header a0) → spec_params_Header a0 some = some (V.int .i64 (m_params_Header a0))) : G_params_Header := goodHook1 fun l hp => by
  unfold hp_params_Header at hp
  split at hp
  · rename_i x0 x1 x2 x3 x4 x5 x6
    exact ok_params_Header h_rect_Reduce h_rect_Valid h_rect_Empty h_params_within h_rect_CeilDiv h_rect_FloorDiv h_rect_Area (SHeader.mk (SRect.mk x0 x1 x2 x3) x4 x5 x6) fun hr => h (SHeader.mk (SRect.mk x0 x1 x2 x3) x4 x5 x6) hr
  · cases hp
noncomputable def env_rect_Intersect {R : Type} : Env R := ⟨Tryz.prog, callCons 39 c_rect_Empty callNil, fun _ _ _ _ _ => none, Tryz.f56.results.toList, maskTab 31 [(0, 0x1c), (1, 0x30), (2, 0x10000030), (3, 0x10), (4, 0x10)], maskAt [(2, 3), (4, 26), (6, 28), (8, 30)], noSort⟩
noncomputable def spec_rect_Intersect {R : Type} (a0 a1 : SRect) (k : V → Option R) : Option R :=
 let x1 : Int := (bif (decide (a1.X0 > a0.X0)) then a1.X0 else a0.X0)
 let x2 : Int := (bif (decide (a1.Y0 > a0.Y0)) then a1.Y0 else a0.Y0)
 let x3 : Int := (bif (decide (a1.X1 < a0.X1)) then a1.X1 else a0.X1)
 let x4 : Int := (bif (decide (a1.Y1 < a0.Y1)) then a1.Y1 else a0.Y1)
 let c5 : Bool := (m_rect_Empty (SRect.mk x1 x2 x3 x4))
 bif c5 then
 k (V.agg [(V.int .i64 (0 : Int)), (V.int .i64 (0 : Int)), (V.int .i64 (0 : Int)), (V.int .i64 (0 : Int))])
 else
 k (V.agg [(V.int .i64 x1), (V.int .i64 x2), (V.int .i64 x3), (V.int .i64 x4)])
abbrev av_rect_Intersect (a0 a1 : SRect) : List V := [(SRect.v a0), (SRect.v a1)]
theorem spec_rect_Intersect_eq {R : Type} (a0 a1 : SRect) (k : V → Option R) : fnK env_rect_Intersect Tryz.f56 (av_rect_Intersect a0 a1) k = spec_rect_Intersect a0 a1 k := by kernel_rfl
theorem ok_rect_Intersect (h_rect_Empty : G_rect_Empty) (a0 a1 : SRect) {v : V} (h : Real (av_rect_Intersect a0 a1) → spec_rect_Intersect a0 a1 some = some v) : FunOK Tryz.prog 56 (av_rect_Intersect a0 a1) v :=
  fn_ok (fn := Tryz.f56) (c := bodyOf Tryz.f56) (E := env_rect_Intersect) ⟨by kernel_rfl, (goodCons h_rect_Empty goodNil), rfl, goodS_no⟩ rfl (by kernel_rfl) (by kernel_rfl) (by kernel_rfl)
  (loopsOK_of _ (by
    have e : loopsOf (bodyOf Tryz.f56) = [] := by kernel_rfl
    rw [e]
    intro p hp; cases hp))
  (fun hr => (spec_rect_Intersect_eq a0 a1 some).trans (h hr))
theorem mk_rect_Intersect (h_rect_Empty : G_rect_Empty) (h : ∀ (a0 a1 : SRect), Real (av_rect_Intersect a0 a1) → spec_rect_Intersect a0 a1 some = some (SRect.v (m_rect_Intersect a0 a1))) : G_rect_Intersect := goodHook1 fun l hp => by
  unfold hp_rect_Intersect at hp
  split at hp
  · rename_i x0 x1 x2 x3 x4 x5 x6 x7
    exact ok_rect_Intersect h_rect_Empty (SRect.mk x0 x1 x2 x3) (SRect.mk x4 x5 x6 x7) fun hr => h (SRect.mk x0 x1 x2 x3) (SRect.mk x4 x5 x6 x7) hr
  · cases hp
theorem au_rect_Intersect (a0 a1 : SRect) : spec_rect_Intersect a0 a1 some = some ((fun (m : SRect) => (SRect.v m)) (m_rect_Intersect a0 a1)) := by
  repeat' (first | rfl | refine bif_t (v := (fun (m : SRect) => (SRect.v m))) ?_ ?_)
theorem good_rect_Intersect_of (h_rect_Empty : G_rect_Empty) : G_rect_Intersect := mk_rect_Intersect h_rect_Empty (fun _ _ _ => au_rect_Intersect _ _)
noncomputable def fuel_rect_Cells_2 (i2_0 i2_1 i2_2 i2_3 i2_4 i2_5 i2_6 : Int) (a0 : SRect) (r2_11 : Rows) : Nat :=
 Int.toNat (i2_3 - i2_6) + 1
noncomputable def step_rect_Cells_2 {R : Type} (i2_0 i2_1 i2_2 i2_3 i2_4 i2_5 : Int) (a0 : SRect) (i2_6 : Int) (r2_11 : Rows) (again : Int → Rows → Option R) (kn : Int → Rows → Option R) : Option R :=
 bif (decide (i2_6 < i2_3)) then
 let x15 : Int := (IntKind.wrap .i64 (i2_6 * i2_0))
 let x16 : Int := (IntKind.wrap .i64 (i2_5 * i2_1))
 let x17 : Int := (IntKind.wrap .i64 (i2_6 + (1 : Int)))
 let x18 : Int := (IntKind.wrap .i64 (x17 * i2_0))
 let x19 : Int := (IntKind.wrap .i64 (i2_5 + (1 : Int)))
 let x20 : Int := (IntKind.wrap .i64 (x19 * i2_1))
 let c21 : SRect := (m_rect_Intersect a0 (SRect.mk x15 x16 x18 x20))
 bif (roomOK ((List.length r2_11) + (1 : Nat)) 32) then
 let r22 : Rows := (r2_11 ++ [(SRect.row c21)])
 let x23 : Int := (IntKind.wrap .i64 (i2_6 + (1 : Int)))
 again x23 r22
 else none
 else
 kn i2_6 r2_11
noncomputable def loop_rect_Cells_2 {R : Type} (i2_0 i2_1 i2_2 i2_3 i2_4 i2_5 : Int) (a0 : SRect) : Nat → Int → Rows → (Int → Rows → Option R) → Option R
  | 0, _, _, _ => none
  | n + 1, i2_6, r2_11, kn => step_rect_Cells_2 i2_0 i2_1 i2_2 i2_3 i2_4 i2_5 a0 i2_6 r2_11 (fun yi2_6 yr2_11 => loop_rect_Cells_2 i2_0 i2_1 i2_2 i2_3 i2_4 i2_5 a0 n yi2_6 yr2_11 kn) kn
noncomputable def shape_rect_Cells_2 : ST := ⟨.undef :: .int .i64 :: .int .i64 :: .ptr 0 0 0 :: unds 3 (.int .i64 :: .int .i64 :: .undef :: .int .i64 :: .vs 50 :: .int .i64 :: .int .i64 :: unds 72 []), [(0, .var SRect.sh false SRect.ts), (50, .vec SRect.sh false)], 59⟩
noncomputable def st_rect_Cells_2 (i2_0 i2_1 i2_2 i2_3 i2_4 i2_5 : Int) (a0 : SRect) (i2_6 : Int) (r2_11 : Rows) : St := shape_rect_Cells_2.put [.i i2_0, .i i2_1, .i i2_2, .i i2_3, .i i2_4, .i i2_5, .i i2_6, .i a0.X0, .i a0.Y0, .i a0.X1, .i a0.Y1, .r r2_11]
noncomputable def hook_rect_Cells_2 {R : Type} : LoopG R := fun l kn _ _ => match l with
  | .i i2_0 :: .i i2_1 :: .i i2_2 :: .i i2_3 :: .i i2_4 :: .i i2_5 :: .i i2_6 :: .i a0_X0 :: .i a0_Y0 :: .i a0_X1 :: .i a0_Y1 :: .r r2_11 :: [] => loop_rect_Cells_2 i2_0 i2_1 i2_2 i2_3 i2_4 i2_5 (SRect.mk a0_X0 a0_Y0 a0_X1 a0_Y1) (fuel_rect_Cells_2 i2_0 i2_1 i2_2 i2_3 i2_4 i2_5 i2_6 (SRect.mk a0_X0 a0_Y0 a0_X1 a0_Y1) r2_11) i2_6 r2_11 (fun yi2_6 yr2_11 => kn (st_rect_Cells_2 i2_0 i2_1 i2_2 i2_3 i2_4 i2_5 (SRect.mk a0_X0 a0_Y0 a0_X1 a0_Y1) yi2_6 yr2_11))
  | _ => none
noncomputable def fuel_rect_Cells_0 (i0_0 i0_1 i0_2 i0_3 i0_4 i0_5 : Int) (a0 : SRect) (r0_10 : Rows) : Nat :=
 Int.toNat (i0_4 - i0_5) + 1
noncomputable def step_rect_Cells_0 {R : Type} (i0_0 i0_1 i0_2 i0_3 i0_4 : Int) (a0 : SRect) (i0_5 : Int) (r0_10 : Rows) (again : Int → Rows → Option R) (kn : Int → Rows → Option R) : Option R :=
 bif (decide (i0_5 < i0_4)) then
 loop_rect_Cells_2 i0_0 i0_1 i0_2 i0_3 i0_4 i0_5 a0 (fuel_rect_Cells_2 i0_0 i0_1 i0_2 i0_3 i0_4 i0_5 i0_2 a0 r0_10) i0_2 r0_10 (fun i2_z15 r2_z16 =>
 let x17 : Int := (IntKind.wrap .i64 (i0_5 + (1 : Int)))
 again x17 r2_z16)
 else
 kn i0_5 r0_10
noncomputable def loop_rect_Cells_0 {R : Type} (i0_0 i0_1 i0_2 i0_3 i0_4 : Int) (a0 : SRect) : Nat → Int → Rows → (Int → Rows → Option R) → Option R
  | 0, _, _, _ => none
  | n + 1, i0_5, r0_10, kn => step_rect_Cells_0 i0_0 i0_1 i0_2 i0_3 i0_4 a0 i0_5 r0_10 (fun yi0_5 yr0_10 => loop_rect_Cells_0 i0_0 i0_1 i0_2 i0_3 i0_4 a0 n yi0_5 yr0_10 kn) kn
noncomputable def shape_rect_Cells_0 : ST := ⟨.undef :: .int .i64 :: .int .i64 :: .ptr 0 0 0 :: unds 3 (.int .i64 :: .int .i64 :: .undef :: .int .i64 :: .vs 50 :: .int .i64 :: unds 73 []), [(0, .var SRect.sh false SRect.ts), (50, .vec SRect.sh false)], 51⟩
noncomputable def st_rect_Cells_0 (i0_0 i0_1 i0_2 i0_3 i0_4 : Int) (a0 : SRect) (i0_5 : Int) (r0_10 : Rows) : St := shape_rect_Cells_0.put [.i i0_0, .i i0_1, .i i0_2, .i i0_3, .i i0_4, .i i0_5, .i a0.X0, .i a0.Y0, .i a0.X1, .i a0.Y1, .r r0_10]
noncomputable def hook_rect_Cells_0 {R : Type} : LoopG R := fun l kn _ _ => match l with
  | .i i0_0 :: .i i0_1 :: .i i0_2 :: .i i0_3 :: .i i0_4 :: .i i0_5 :: .i a0_X0 :: .i a0_Y0 :: .i a0_X1 :: .i a0_Y1 :: .r r0_10 :: [] => loop_rect_Cells_0 i0_0 i0_1 i0_2 i0_3 i0_4 (SRect.mk a0_X0 a0_Y0 a0_X1 a0_Y1) (fuel_rect_Cells_0 i0_0 i0_1 i0_2 i0_3 i0_4 i0_5 (SRect.mk a0_X0 a0_Y0 a0_X1 a0_Y1) r0_10) i0_5 r0_10 (fun yi0_5 yr0_10 => kn (st_rect_Cells_0 i0_0 i0_1 i0_2 i0_3 i0_4 (SRect.mk a0_X0 a0_Y0 a0_X1 a0_Y1) yi0_5 yr0_10))
  | _ => none
noncomputable def env_rect_Cells {R : Type} : Env R := ⟨Tryz.prog, callCons 26 c_rect_Valid (callCons 39 c_rect_Empty (callCons 41 c_rect_CeilDiv (callCons 42 c_rect_FloorDiv (callCons 56 c_rect_Intersect callNil)))), fun id => bif Nat.beq id 2 then loopAlt shape_rect_Cells_2 hook_rect_Cells_2 loopNil else (fun id => bif Nat.beq id 0 then loopAlt shape_rect_Cells_0 hook_rect_Cells_0 loopNil else (fun _ _ _ _ _ => none) id) id, Tryz.f73.results.toList, maskTab 86 [(0, 0xccc000e), (1, 0x1000000e), (2, 0x40), (3, 0x18e), (4, 0x78e), (5, 0x1000000000078e), (6, 0x40), (7, 0xf8e), (8, 0x1d8e), (9, 0x100000000001d8e), (10, 0x1d8e), (11, 0x3d8e), (12, 0x4000000000003d8e), (13, 0x3d8e), (14, 0x3d8e), (15, 0x40)], maskAt [(1, 50), (2, 2), (4, 17), (5, 59), (6, 18), (8, 28), (10, 38), (12, 46), (14, 47), (16, 48), (18, 54), (20, 90), (22, 57), (24, 63), (26, 87), (28, 66), (30, 93)], noSort⟩
theorem step_rect_Cells_2_eq {R : Type} (i2_0 i2_1 i2_2 i2_3 i2_4 i2_5 : Int) (a0 : SRect) (si2_6 : Int) (sr2_11 : Rows) (kn : St → Option R) (kx : Nat → St → Option R) (kr : V → Option R) (n : Nat) (i2_6 : Int) (r2_11 : Rows) :
    loopN env_rect_Cells 2 (loopAt Tryz.f73 1) (st_rect_Cells_2 i2_0 i2_1 i2_2 i2_3 i2_4 i2_5 a0 si2_6 sr2_11) kn kx kr (n + 1) (st_rect_Cells_2 i2_0 i2_1 i2_2 i2_3 i2_4 i2_5 a0 i2_6 r2_11) =
    step_rect_Cells_2 i2_0 i2_1 i2_2 i2_3 i2_4 i2_5 a0 i2_6 r2_11 (fun yi2_6 yr2_11 => loopN env_rect_Cells 2 (loopAt Tryz.f73 1) (st_rect_Cells_2 i2_0 i2_1 i2_2 i2_3 i2_4 i2_5 a0 si2_6 sr2_11) kn kx kr n (st_rect_Cells_2 i2_0 i2_1 i2_2 i2_3 i2_4 i2_5 a0 yi2_6 yr2_11)) (fun yi2_6 yr2_11 => kn (st_rect_Cells_2 i2_0 i2_1 i2_2 i2_3 i2_4 i2_5 a0 yi2_6 yr2_11)) := by kernel_rfl
theorem loop_rect_Cells_2_eq {R : Type} (i2_0 i2_1 i2_2 i2_3 i2_4 i2_5 : Int) (a0 : SRect) (si2_6 : Int) (sr2_11 : Rows) (kn : St → Option R) (kx : Nat → St → Option R) (kr : V → Option R) : ∀ (n : Nat) (i2_6 : Int) (r2_11 : Rows),
    loop_rect_Cells_2 i2_0 i2_1 i2_2 i2_3 i2_4 i2_5 a0 n i2_6 r2_11 (fun yi2_6 yr2_11 => kn (st_rect_Cells_2 i2_0 i2_1 i2_2 i2_3 i2_4 i2_5 a0 yi2_6 yr2_11)) = loopN env_rect_Cells 2 (loopAt Tryz.f73 1) (st_rect_Cells_2 i2_0 i2_1 i2_2 i2_3 i2_4 i2_5 a0 si2_6 sr2_11) kn kx kr n (st_rect_Cells_2 i2_0 i2_1 i2_2 i2_3 i2_4 i2_5 a0 i2_6 r2_11)
  | 0, _, _ => rfl
  | n + 1, i2_6, r2_11 => by
    rw [step_rect_Cells_2_eq, loop_rect_Cells_2]
    congr 1
    funext yi2_6 yr2_11
    exact loop_rect_Cells_2_eq i2_0 i2_1 i2_2 i2_3 i2_4 i2_5 a0 si2_6 sr2_11 kn kx kr n yi2_6 yr2_11
theorem goodl_rect_Cells_2 {R : Type} {rest} (h : GoodL (R := R) env_rect_Cells 2 (loopAt Tryz.f73 1) rest) : GoodL (R := R) env_rect_Cells 2 (loopAt Tryz.f73 1) (loopAlt shape_rect_Cells_2 hook_rect_Cells_2 rest) := by
  refine goodL_alt (fun l kn kx kr r h => ?_) h
  unfold hook_rect_Cells_2 at h
  split at h
  · rename_i i2_0 i2_1 i2_2 i2_3 i2_4 i2_5 i2_6 a0_X0 a0_Y0 a0_X1 a0_Y1 r2_11
    exact ⟨_, (loop_rect_Cells_2_eq i2_0 i2_1 i2_2 i2_3 i2_4 i2_5 (SRect.mk a0_X0 a0_Y0 a0_X1 a0_Y1) i2_6 r2_11 kn kx kr _ i2_6 r2_11).symm.trans h⟩
  · cases h
theorem step_rect_Cells_0_eq {R : Type} (i0_0 i0_1 i0_2 i0_3 i0_4 : Int) (a0 : SRect) (si0_5 : Int) (sr0_10 : Rows) (kn : St → Option R) (kx : Nat → St → Option R) (kr : V → Option R) (n : Nat) (i0_5 : Int) (r0_10 : Rows) :
    loopN env_rect_Cells 0 (loopAt Tryz.f73 0) (st_rect_Cells_0 i0_0 i0_1 i0_2 i0_3 i0_4 a0 si0_5 sr0_10) kn kx kr (n + 1) (st_rect_Cells_0 i0_0 i0_1 i0_2 i0_3 i0_4 a0 i0_5 r0_10) =
    step_rect_Cells_0 i0_0 i0_1 i0_2 i0_3 i0_4 a0 i0_5 r0_10 (fun yi0_5 yr0_10 => loopN env_rect_Cells 0 (loopAt Tryz.f73 0) (st_rect_Cells_0 i0_0 i0_1 i0_2 i0_3 i0_4 a0 si0_5 sr0_10) kn kx kr n (st_rect_Cells_0 i0_0 i0_1 i0_2 i0_3 i0_4 a0 yi0_5 yr0_10)) (fun yi0_5 yr0_10 => kn (st_rect_Cells_0 i0_0 i0_1 i0_2 i0_3 i0_4 a0 yi0_5 yr0_10)) := by kernel_rfl
theorem loop_rect_Cells_0_eq {R : Type} (i0_0 i0_1 i0_2 i0_3 i0_4 : Int) (a0 : SRect) (si0_5 : Int) (sr0_10 : Rows) (kn : St → Option R) (kx : Nat → St → Option R) (kr : V → Option R) : ∀ (n : Nat) (i0_5 : Int) (r0_10 : Rows),
    loop_rect_Cells_0 i0_0 i0_1 i0_2 i0_3 i0_4 a0 n i0_5 r0_10 (fun yi0_5 yr0_10 => kn (st_rect_Cells_0 i0_0 i0_1 i0_2 i0_3 i0_4 a0 yi0_5 yr0_10)) = loopN env_rect_Cells 0 (loopAt Tryz.f73 0) (st_rect_Cells_0 i0_0 i0_1 i0_2 i0_3 i0_4 a0 si0_5 sr0_10) kn kx kr n (st_rect_Cells_0 i0_0 i0_1 i0_2 i0_3 i0_4 a0 i0_5 r0_10)
  | 0, _, _ => rfl
  | n + 1, i0_5, r0_10 => by
    rw [step_rect_Cells_0_eq, loop_rect_Cells_0]
    congr 1
    funext yi0_5 yr0_10
    exact loop_rect_Cells_0_eq i0_0 i0_1 i0_2 i0_3 i0_4 a0 si0_5 sr0_10 kn kx kr n yi0_5 yr0_10
theorem goodl_rect_Cells_0 {R : Type} {rest} (h : GoodL (R := R) env_rect_Cells 0 (loopAt Tryz.f73 0) rest) : GoodL (R := R) env_rect_Cells 0 (loopAt Tryz.f73 0) (loopAlt shape_rect_Cells_0 hook_rect_Cells_0 rest) := by
  refine goodL_alt (fun l kn kx kr r h => ?_) h
  unfold hook_rect_Cells_0 at h
  split at h
  · rename_i i0_0 i0_1 i0_2 i0_3 i0_4 i0_5 a0_X0 a0_Y0 a0_X1 a0_Y1 r0_10
    exact ⟨_, (loop_rect_Cells_0_eq i0_0 i0_1 i0_2 i0_3 i0_4 (SRect.mk a0_X0 a0_Y0 a0_X1 a0_Y1) i0_5 r0_10 kn kx kr _ i0_5 r0_10).symm.trans h⟩
  · cases h
theorem good_rect_Cells_0 {R : Type} : GoodLoop (R := R) env_rect_Cells 0 (loopAt Tryz.f73 0) := goodL_loop (g := loopAlt shape_rect_Cells_0 hook_rect_Cells_0 loopNil) (fun _ _ _ _ => rfl) (goodl_rect_Cells_0 goodL_nil)
theorem good_rect_Cells_2 {R : Type} : GoodLoop (R := R) env_rect_Cells 2 (loopAt Tryz.f73 1) := goodL_loop (g := loopAlt shape_rect_Cells_2 hook_rect_Cells_2 loopNil) (fun _ _ _ _ => rfl) (goodl_rect_Cells_2 goodL_nil)
noncomputable def spec_rect_Cells {R : Type} (a0 : SRect) (a1 a2 : Int) (k : V → Option R) : Option R :=
 let c1 : Bool := (m_rect_Valid a0)
 bif ((!c1) == false) then
 let c2 : Bool := (m_rect_Empty a0)
 let b3 : Bool := (decide (a1 < (1 : Int)))
 let b4 : Bool := (bif c2 then true else b3)
 let b5 : Bool := (decide (a2 < (1 : Int)))
 let b6 : Bool := (bif b4 then true else b5)
 bif b6 then
 k (V.data SRect.sh [])
 else
 let c7 : Int := (m_rect_FloorDiv a0.X0 a1)
 let c8 : Int := (m_rect_CeilDiv a0.X1 a1)
 let c9 : Int := (m_rect_FloorDiv a0.Y0 a2)
 let c10 : Int := (m_rect_CeilDiv a0.Y1 a2)
 let x11 : Int := (IntKind.wrap .i64 (c8 - c7))
 let x12 : Int := (IntKind.wrap .i64 (c10 - c9))
 let x13 : Int := (IntKind.wrap .i64 (x11 * x12))
 let b14 : Bool := (decide (x13 > (65536 : Int)))
 bif b14 then
 k (V.data SRect.sh [])
 else
 loop_rect_Cells_0 a1 a2 c7 c8 c10 a0 (fuel_rect_Cells_0 a1 a2 c7 c8 c10 c9 a0 []) c9 [] (fun i0_z18 r0_z19 =>
 k (V.data SRect.sh r0_z19))
 else
 k (V.data SRect.sh [])
abbrev av_rect_Cells (a0 : SRect) (a1 a2 : Int) : List V := [(SRect.v a0), (V.int .i64 a1), (V.int .i64 a2)]
theorem spec_rect_Cells_eq {R : Type} (a0 : SRect) (a1 a2 : Int) (k : V → Option R) : fnK env_rect_Cells Tryz.f73 (av_rect_Cells a0 a1 a2) k = spec_rect_Cells a0 a1 a2 k := by kernel_rfl
theorem ok_rect_Cells (h_rect_Valid : G_rect_Valid) (h_rect_Empty : G_rect_Empty) (h_rect_CeilDiv : G_rect_CeilDiv) (h_rect_FloorDiv : G_rect_FloorDiv) (h_rect_Intersect : G_rect_Intersect) (a0 : SRect) (a1 a2 : Int) {v : V} (h : Real (av_rect_Cells a0 a1 a2) → spec_rect_Cells a0 a1 a2 some = some v) : FunOK Tryz.prog 73 (av_rect_Cells a0 a1 a2) v :=
  fn_ok (fn := Tryz.f73) (c := bodyOf Tryz.f73) (E := env_rect_Cells) ⟨by kernel_rfl, (goodCons h_rect_Valid (goodCons h_rect_Empty (goodCons h_rect_CeilDiv (goodCons h_rect_FloorDiv (goodCons h_rect_Intersect goodNil))))), rfl, goodS_no⟩ rfl (by kernel_rfl) (by kernel_rfl) (by kernel_rfl)
  (loopsOK_of _ (by
    have e : loopsOf (bodyOf Tryz.f73) = [(0, loopAt Tryz.f73 0), (2, loopAt Tryz.f73 1)] := by kernel_rfl
    rw [e]
    simp only [List.forall_mem_cons, List.not_mem_nil, false_implies, implies_true, and_true]
    exact ⟨good_rect_Cells_0, good_rect_Cells_2⟩))
  (fun hr => (spec_rect_Cells_eq a0 a1 a2 some).trans (h hr))
theorem mk_rect_Cells (h_rect_Valid : G_rect_Valid) (h_rect_Empty : G_rect_Empty) (h_rect_CeilDiv : G_rect_CeilDiv) (h_rect_FloorDiv : G_rect_FloorDiv) (h_rect_Intersect : G_rect_Intersect) (h : ∀ (a0 : SRect) (a1 a2 : Int), Real (av_rect_Cells a0 a1 a2) → spec_rect_Cells a0 a1 a2 some = some (V.data SRect.sh (m_rect_Cells a0 a1 a2))) : G_rect_Cells := goodHook1 fun l hp => by
  unfold hp_rect_Cells at hp
  split at hp
  · rename_i x0 x1 x2 x3 x4 x5
    exact ok_rect_Cells h_rect_Valid h_rect_Empty h_rect_CeilDiv h_rect_FloorDiv h_rect_Intersect (SRect.mk x0 x1 x2 x3) x4 x5 fun hr => h (SRect.mk x0 x1 x2 x3) x4 x5 hr
  · cases hp
noncomputable def env_layout_Tiles {R : Type} : Env R := ⟨Tryz.prog, callCons 14 c_params_Header (callCons 73 c_rect_Cells callNil), fun _ _ _ _ _ => none, Tryz.f55.results.toList, maskTab 13 [(0, 0x2), (1, 0x22), (2, 0x4), (3, 0x4)], maskAt [(2, 2), (4, 5), (6, 6)], noSort⟩
noncomputable def spec_layout_Tiles {R : Type} (a0 : SHeader) (k : V → Option R) : Option R :=
 let c1 : Int := (m_params_Header a0)
 bif (c1 != (0 : Int)) then
 k (V.data SRect.sh [])
 else
 let c2 : Rows := (m_rect_Cells a0.Area a0.TileW a0.TileH)
 k (V.data SRect.sh c2)
abbrev av_layout_Tiles (a0 : SHeader) : List V := [(SHeader.v a0)]
theorem spec_layout_Tiles_eq {R : Type} (a0 : SHeader) (k : V → Option R) : fnK env_layout_Tiles Tryz.f55 (av_layout_Tiles a0) k = spec_layout_Tiles a0 k := by kernel_rfl
theorem ok_layout_Tiles (h_params_Header : G_params_Header) (h_rect_Cells : G_rect_Cells) (a0 : SHeader) {v : V} (h : Real (av_layout_Tiles a0) → spec_layout_Tiles a0 some = some v) : FunOK Tryz.prog 55 (av_layout_Tiles a0) v :=
  fn_ok (fn := Tryz.f55) (c := bodyOf Tryz.f55) (E := env_layout_Tiles) ⟨by kernel_rfl, (goodCons h_params_Header (goodCons h_rect_Cells goodNil)), rfl, goodS_no⟩ rfl (by kernel_rfl) (by kernel_rfl) (by kernel_rfl)
  (loopsOK_of _ (by
    have e : loopsOf (bodyOf Tryz.f55) = [] := by kernel_rfl
    rw [e]
    intro p hp; cases hp))
  (fun hr => (spec_layout_Tiles_eq a0 some).trans (h hr))
theorem mk_layout_Tiles (h_params_Header : G_params_Header) (h_rect_Cells : G_rect_Cells) (h : ∀ (a0 : SHeader), Real (av_layout_Tiles a0) → spec_layout_Tiles a0 some = some (V.data SRect.sh (m_layout_Tiles a0))) : G_layout_Tiles := goodHook1 fun l hp => by
  unfold hp_layout_Tiles at hp
  split at hp
  · rename_i x0 x1 x2 x3 x4 x5 x6
    exact ok_layout_Tiles h_params_Header h_rect_Cells (SHeader.mk (SRect.mk x0 x1 x2 x3) x4 x5 x6) fun hr => h (SHeader.mk (SRect.mk x0 x1 x2 x3) x4 x5 x6) hr
  · cases hp
theorem au_layout_Tiles (a0 : SHeader) : spec_layout_Tiles a0 some = some ((fun (m : Rows) => (V.data SRect.sh m)) (m_layout_Tiles a0)) := by
  repeat' (first | rfl | refine bif_t (v := (fun (m : Rows) => (V.data SRect.sh m))) ?_ ?_)
theorem good_layout_Tiles_of (h_params_Header : G_params_Header) (h_rect_Cells : G_rect_Cells) : G_layout_Tiles := mk_layout_Tiles h_params_Header h_rect_Cells (fun _ _ => au_layout_Tiles _)
noncomputable def fuel_crop_touched_0 (r0_0 : Rows) (i0_1 i0_2 : Int) (a1 : SRect) (r0_7 : Rows) : Nat :=
 Int.toNat (i0_1 - i0_2) + 1
noncomputable def step_crop_touched_0 {R : Type} (r0_0 : Rows) (i0_1 : Int) (a1 : SRect) (i0_2 : Int) (r0_7 : Rows) (again : Int → Rows → Option R) (kn : Int → Rows → Option R) : Option R :=
 bif (decide (i0_2 < i0_1)) then
 bif (inR i0_2 (List.length r0_0)) then
 let w3 : List V := (List.getD r0_0 (Int.toNat i0_2) [])
 let s4 : SRect := (SRect.of w3)
 let c5 : SRect := (m_rect_Intersect s4 a1)
 let c6 : Bool := (m_rect_Empty c5)
 bif (!c6) then
 bif (roomOK ((List.length r0_7) + (1 : Nat)) 32) then
 let r7 : Rows := (r0_7 ++ [(SRect.row s4)])
 let x8 : Int := (IntKind.wrap .i64 (i0_2 + (1 : Int)))
 again x8 r7
 else none
 else
 let x9 : Int := (IntKind.wrap .i64 (i0_2 + (1 : Int)))
 again x9 r0_7
 else none
 else
 kn i0_2 r0_7
noncomputable def loop_crop_touched_0 {R : Type} (r0_0 : Rows) (i0_1 : Int) (a1 : SRect) : Nat → Int → Rows → (Int → Rows → Option R) → Option R
  | 0, _, _, _ => none
  | n + 1, i0_2, r0_7, kn => step_crop_touched_0 r0_0 i0_1 a1 i0_2 r0_7 (fun yi0_2 yr0_7 => loop_crop_touched_0 r0_0 i0_1 a1 n yi0_2 yr0_7 kn) kn
noncomputable def shape_crop_touched_0 : ST := ⟨unds 3 (.ptr 1 0 0 :: .undef :: .vs 8 :: unds 3 (.data SRect.sh :: .int .i64 :: .int .i64 :: unds 14 [])), [(1, .var SRect.sh false SRect.ts), (8, .vec SRect.sh false)], 9⟩
noncomputable def st_crop_touched_0 (r0_0 : Rows) (i0_1 : Int) (a1 : SRect) (i0_2 : Int) (r0_7 : Rows) : St := shape_crop_touched_0.put [.r r0_0, .i i0_1, .i i0_2, .i a1.X0, .i a1.Y0, .i a1.X1, .i a1.Y1, .r r0_7]
noncomputable def hook_crop_touched_0 {R : Type} : LoopG R := fun l kn _ _ => match l with
  | .r r0_0 :: .i i0_1 :: .i i0_2 :: .i a1_X0 :: .i a1_Y0 :: .i a1_X1 :: .i a1_Y1 :: .r r0_7 :: [] => loop_crop_touched_0 r0_0 i0_1 (SRect.mk a1_X0 a1_Y0 a1_X1 a1_Y1) (fuel_crop_touched_0 r0_0 i0_1 i0_2 (SRect.mk a1_X0 a1_Y0 a1_X1 a1_Y1) r0_7) i0_2 r0_7 (fun yi0_2 yr0_7 => kn (st_crop_touched_0 r0_0 i0_1 (SRect.mk a1_X0 a1_Y0 a1_X1 a1_Y1) yi0_2 yr0_7))
  | _ => none
noncomputable def env_crop_touched {R : Type} : Env R := ⟨Tryz.prog, callCons 39 c_rect_Empty (callCons 55 c_layout_Tiles (callCons 56 c_rect_Intersect callNil)), fun id => bif Nat.beq id 0 then loopAlt shape_crop_touched_0 hook_crop_touched_0 loopNil else (fun _ _ _ _ _ => none) id, Tryz.f25.results.toList, maskTab 26 [(0, 0xc), (1, 0x2c), (2, 0xe28), (3, 0x1e28), (4, 0xea8), (5, 0x80ea8), (6, 0xe28), (7, 0xe28), (8, 0x10)], maskAt [(1, 8), (2, 3), (4, 4), (6, 12), (8, 13), (10, 17), (12, 22), (14, 27), (16, 29)], noSort⟩
theorem step_crop_touched_0_eq {R : Type} (r0_0 : Rows) (i0_1 : Int) (a1 : SRect) (si0_2 : Int) (sr0_7 : Rows) (kn : St → Option R) (kx : Nat → St → Option R) (kr : V → Option R) (n : Nat) (i0_2 : Int) (r0_7 : Rows) :
    loopN env_crop_touched 0 (loopAt Tryz.f25 0) (st_crop_touched_0 r0_0 i0_1 a1 si0_2 sr0_7) kn kx kr (n + 1) (st_crop_touched_0 r0_0 i0_1 a1 i0_2 r0_7) =
    step_crop_touched_0 r0_0 i0_1 a1 i0_2 r0_7 (fun yi0_2 yr0_7 => loopN env_crop_touched 0 (loopAt Tryz.f25 0) (st_crop_touched_0 r0_0 i0_1 a1 si0_2 sr0_7) kn kx kr n (st_crop_touched_0 r0_0 i0_1 a1 yi0_2 yr0_7)) (fun yi0_2 yr0_7 => kn (st_crop_touched_0 r0_0 i0_1 a1 yi0_2 yr0_7)) := by kernel_rfl
theorem loop_crop_touched_0_eq {R : Type} (r0_0 : Rows) (i0_1 : Int) (a1 : SRect) (si0_2 : Int) (sr0_7 : Rows) (kn : St → Option R) (kx : Nat → St → Option R) (kr : V → Option R) : ∀ (n : Nat) (i0_2 : Int) (r0_7 : Rows),
    loop_crop_touched_0 r0_0 i0_1 a1 n i0_2 r0_7 (fun yi0_2 yr0_7 => kn (st_crop_touched_0 r0_0 i0_1 a1 yi0_2 yr0_7)) = loopN env_crop_touched 0 (loopAt Tryz.f25 0) (st_crop_touched_0 r0_0 i0_1 a1 si0_2 sr0_7) kn kx kr n (st_crop_touched_0 r0_0 i0_1 a1 i0_2 r0_7)
  | 0, _, _ => rfl
  | n + 1, i0_2, r0_7 => by
    rw [step_crop_touched_0_eq, loop_crop_touched_0]
    congr 1
    funext yi0_2 yr0_7
    exact loop_crop_touched_0_eq r0_0 i0_1 a1 si0_2 sr0_7 kn kx kr n yi0_2 yr0_7
theorem goodl_crop_touched_0 {R : Type} {rest} (h : GoodL (R := R) env_crop_touched 0 (loopAt Tryz.f25 0) rest) : GoodL (R := R) env_crop_touched 0 (loopAt Tryz.f25 0) (loopAlt shape_crop_touched_0 hook_crop_touched_0 rest) := by
  refine goodL_alt (fun l kn kx kr r h => ?_) h
  unfold hook_crop_touched_0 at h
  split at h
  · rename_i r0_0 i0_1 i0_2 a1_X0 a1_Y0 a1_X1 a1_Y1 r0_7
    exact ⟨_, (loop_crop_touched_0_eq r0_0 i0_1 (SRect.mk a1_X0 a1_Y0 a1_X1 a1_Y1) i0_2 r0_7 kn kx kr _ i0_2 r0_7).symm.trans h⟩
  · cases h
theorem good_crop_touched_0 {R : Type} : GoodLoop (R := R) env_crop_touched 0 (loopAt Tryz.f25 0) := goodL_loop (g := loopAlt shape_crop_touched_0 hook_crop_touched_0 loopNil) (fun _ _ _ _ => rfl) (goodl_crop_touched_0 goodL_nil)
noncomputable def spec_crop_touched {R : Type} (a0 : SHeader) (a1 : SRect) (k : V → Option R) : Option R :=
 let c1 : Rows := (m_layout_Tiles a0)
 let x2 : Int := (((List.length c1) : Nat) : Int)
 loop_crop_touched_0 c1 x2 a1 (fuel_crop_touched_0 c1 x2 (0 : Int) a1 []) (0 : Int) [] (fun i0_z10 r0_z11 =>
 k (V.data SRect.sh r0_z11))
abbrev av_crop_touched (a0 : SHeader) (a1 : SRect) : List V := [(SHeader.v a0), (SRect.v a1)]
theorem spec_crop_touched_eq {R : Type} (a0 : SHeader) (a1 : SRect) (k : V → Option R) : fnK env_crop_touched Tryz.f25 (av_crop_touched a0 a1) k = spec_crop_touched a0 a1 k := by kernel_rfl
theorem ok_crop_touched (h_rect_Empty : G_rect_Empty) (h_layout_Tiles : G_layout_Tiles) (h_rect_Intersect : G_rect_Intersect) (a0 : SHeader) (a1 : SRect) {v : V} (h : Real (av_crop_touched a0 a1) → spec_crop_touched a0 a1 some = some v) : FunOK Tryz.prog 25 (av_crop_touched a0 a1) v :=
  fn_ok (fn := Tryz.f25) (c := bodyOf Tryz.f25) (E := env_crop_touched) ⟨by kernel_rfl, (goodCons h_rect_Empty (goodCons h_layout_Tiles (goodCons h_rect_Intersect goodNil))), rfl, goodS_no⟩ rfl (by kernel_rfl) (by kernel_rfl) (by kernel_rfl)
  (loopsOK_of _ (by
    have e : loopsOf (bodyOf Tryz.f25) = [(0, loopAt Tryz.f25 0)] := by kernel_rfl
    rw [e]
    simp only [List.forall_mem_cons, List.not_mem_nil, false_implies, implies_true, and_true]
    exact good_crop_touched_0))
  (fun hr => (spec_crop_touched_eq a0 a1 some).trans (h hr))
theorem mk_crop_touched (h_rect_Empty : G_rect_Empty) (h_layout_Tiles : G_layout_Tiles) (h_rect_Intersect : G_rect_Intersect) (h : ∀ (a0 : SHeader) (a1 : SRect), Real (av_crop_touched a0 a1) → spec_crop_touched a0 a1 some = some (V.data SRect.sh (m_crop_touched a0 a1))) : G_crop_touched := goodHook1 fun l hp => by
  unfold hp_crop_touched at hp
  split at hp
  · rename_i x0 x1 x2 x3 x4 x5 x6 x7 x8 x9 x10
    exact ok_crop_touched h_rect_Empty h_layout_Tiles h_rect_Intersect (SHeader.mk (SRect.mk x0 x1 x2 x3) x4 x5 x6) (SRect.mk x7 x8 x9 x10) fun hr => h (SHeader.mk (SRect.mk x0 x1 x2 x3) x4 x5 x6) (SRect.mk x7 x8 x9 x10) hr
  · cases hp
end Go.Vm
