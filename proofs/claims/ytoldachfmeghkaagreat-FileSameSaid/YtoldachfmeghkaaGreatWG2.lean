import Derived.Test.YtoldachfmeghkaaGreatWC
set_option linter.unusedVariables false
set_option linter.unusedSimpArgs false
set_option maxRecDepth 100000
noncomputable section
namespace Go.Vm
open Go.Proofs
noncomputable def fuel_R28_ReadUint_0 (r0_0 : Rows) (i0_1 i0_2 i0_3 i0_4 : Int) : Nat :=
 Int.toNat (i0_2 - i0_4) + 1
noncomputable def step_R28_ReadUint_0 {R : Type} (r0_0 : Rows) (i0_1 i0_2 : Int) (i0_3 i0_4 : Int) (again : Int → Int → Option R) (kn : Int → Int → Option R) : Option R :=
 bif (decide (i0_4 < i0_2)) then
 let x9 : Int := (IntKind.wrap .i64 (i0_3 * 2 ^ (8 : Nat)))
 let x10 : Int := (IntKind.wrap .i64 (i0_1 + i0_4))
 bif (inR x10 (List.length r0_0)) then
 let w11 : List V := (List.getD r0_0 (Int.toNat x10) [])
 let x12 : Int := (V.toInt (List.getD w11 0 V.undef))
 let x13 : Int := (intBits .or .i64 x9 (IntKind.wrap .i64 x12))
 let x14 : Int := (IntKind.wrap .i64 (i0_4 + (1 : Int)))
 again x13 x14
 else none
 else
 kn i0_3 i0_4
noncomputable def loop_R28_ReadUint_0 {R : Type} (r0_0 : Rows) (i0_1 i0_2 : Int) : Nat → Int → Int → (Int → Int → Option R) → Option R
  | 0, _, _, _ => none
  | n + 1, i0_3, i0_4, kn => step_R28_ReadUint_0 r0_0 i0_1 i0_2 i0_3 i0_4 (fun yi0_3 yi0_4 => loop_R28_ReadUint_0 r0_0 i0_1 i0_2 n yi0_3 yi0_4 kn) kn
noncomputable def shape_R28_ReadUint_0 : ST := ⟨.data [.int .u8] :: .int .i64 :: .int .i64 :: unds 5 (.int .i64 :: .int .i64 :: unds 38 []), [], 30⟩
noncomputable def st_R28_ReadUint_0 (r0_0 : Rows) (i0_1 i0_2 : Int) (i0_3 i0_4 : Int) : St := shape_R28_ReadUint_0.put [.r r0_0, .i i0_1, .i i0_2, .i i0_3, .i i0_4]
noncomputable def hook_R28_ReadUint_0 {R : Type} : LoopG R := fun l kn _ _ => match l with
  | .r r0_0 :: .i i0_1 :: .i i0_2 :: .i i0_3 :: .i i0_4 :: [] => loop_R28_ReadUint_0 r0_0 i0_1 i0_2 (fuel_R28_ReadUint_0 r0_0 i0_1 i0_2 i0_3 i0_4) i0_3 i0_4 (fun yi0_3 yi0_4 => kn (st_R28_ReadUint_0 r0_0 i0_1 i0_2 yi0_3 yi0_4))
  | _ => none
noncomputable def env_R28_ReadUint {R : Type} : Env R := ⟨Tryz.prog, callNil, fun id => bif Nat.beq id 0 then loopAlt shape_R28_ReadUint_0 hook_R28_ReadUint_0 loopNil else (fun _ _ _ _ _ => none) id, Tryz.f32.results.toList, maskTab 48 [(0, 0x1e66007), (1, 0x2000007), (2, 0xc0), (3, 0x80000007), (4, 0xc0), (5, 0x107), (6, 0x307), (7, 0x400000307), (8, 0x307), (9, 0x307), (10, 0xc0)], maskAt [(1, 30), (2, 2), (4, 18), (6, 20), (8, 26), (10, 28), (12, 29), (14, 34), (16, 48), (18, 37), (20, 51)], noSort⟩
theorem step_R28_ReadUint_0_eq {R : Type} (r0_0 : Rows) (i0_1 i0_2 : Int) (si0_3 si0_4 : Int) (kn : St → Option R) (kx : Nat → St → Option R) (kr : V → Option R) (n : Nat) (i0_3 i0_4 : Int) :
    loopN env_R28_ReadUint 0 (loopAt Tryz.f32 0) (st_R28_ReadUint_0 r0_0 i0_1 i0_2 si0_3 si0_4) kn kx kr (n + 1) (st_R28_ReadUint_0 r0_0 i0_1 i0_2 i0_3 i0_4) =
    step_R28_ReadUint_0 r0_0 i0_1 i0_2 i0_3 i0_4 (fun yi0_3 yi0_4 => loopN env_R28_ReadUint 0 (loopAt Tryz.f32 0) (st_R28_ReadUint_0 r0_0 i0_1 i0_2 si0_3 si0_4) kn kx kr n (st_R28_ReadUint_0 r0_0 i0_1 i0_2 yi0_3 yi0_4)) (fun yi0_3 yi0_4 => kn (st_R28_ReadUint_0 r0_0 i0_1 i0_2 yi0_3 yi0_4)) := by kernel_rfl
theorem loop_R28_ReadUint_0_eq {R : Type} (r0_0 : Rows) (i0_1 i0_2 : Int) (si0_3 si0_4 : Int) (kn : St → Option R) (kx : Nat → St → Option R) (kr : V → Option R) : ∀ (n : Nat) (i0_3 i0_4 : Int),
    loop_R28_ReadUint_0 r0_0 i0_1 i0_2 n i0_3 i0_4 (fun yi0_3 yi0_4 => kn (st_R28_ReadUint_0 r0_0 i0_1 i0_2 yi0_3 yi0_4)) = loopN env_R28_ReadUint 0 (loopAt Tryz.f32 0) (st_R28_ReadUint_0 r0_0 i0_1 i0_2 si0_3 si0_4) kn kx kr n (st_R28_ReadUint_0 r0_0 i0_1 i0_2 i0_3 i0_4)
  | 0, _, _ => rfl
  | n + 1, i0_3, i0_4 => by
    rw [step_R28_ReadUint_0_eq, loop_R28_ReadUint_0]
    congr 1
    funext yi0_3 yi0_4
    exact loop_R28_ReadUint_0_eq r0_0 i0_1 i0_2 si0_3 si0_4 kn kx kr n yi0_3 yi0_4
theorem goodl_R28_ReadUint_0 {R : Type} {rest} (h : GoodL (R := R) env_R28_ReadUint 0 (loopAt Tryz.f32 0) rest) : GoodL (R := R) env_R28_ReadUint 0 (loopAt Tryz.f32 0) (loopAlt shape_R28_ReadUint_0 hook_R28_ReadUint_0 rest) := by
  refine goodL_alt (fun l kn kx kr r h => ?_) h
  unfold hook_R28_ReadUint_0 at h
  split at h
  · rename_i r0_0 i0_1 i0_2 i0_3 i0_4
    exact ⟨_, (loop_R28_ReadUint_0_eq r0_0 i0_1 i0_2 i0_3 i0_4 kn kx kr _ i0_3 i0_4).symm.trans h⟩
  · cases h
theorem good_R28_ReadUint_0 {R : Type} : GoodLoop (R := R) env_R28_ReadUint 0 (loopAt Tryz.f32 0) := goodL_loop (g := loopAlt shape_R28_ReadUint_0 hook_R28_ReadUint_0 loopNil) (fun _ _ _ _ => rfl) (goodl_R28_ReadUint_0 goodL_nil)
noncomputable def spec_R28_ReadUint {R : Type} (a0 : Rows) (a1 a2 : Int) (k : V → Option R) : Option R :=
 let b1 : Bool := (decide (a2 < (1 : Int)))
 let b2 : Bool := (decide (a2 > (4 : Int)))
 let b3 : Bool := (bif b1 then true else b2)
 let b4 : Bool := (decide (a1 < (0 : Int)))
 let b5 : Bool := (bif b3 then true else b4)
 bif (b5 == false) then
 let x6 : Int := (((List.length a0) : Nat) : Int)
 bif (decide (a1 > x6)) then
 k (V.tup [(V.int .i64 (0 : Int)), (V.int .i64 (2 : Int))])
 else
 let x7 : Int := (((List.length a0) : Nat) : Int)
 let x8 : Int := (IntKind.wrap .i64 (x7 - a1))
 bif (decide (x8 < a2)) then
 k (V.tup [(V.int .i64 (0 : Int)), (V.int .i64 (7 : Int))])
 else
 loop_R28_ReadUint_0 a0 a1 a2 (fuel_R28_ReadUint_0 a0 a1 a2 (0 : Int) (0 : Int)) (0 : Int) (0 : Int) (fun i0_z15 i0_z16 =>
 k (V.tup [(V.int .i64 i0_z15), (V.int .i64 (0 : Int))]))
 else
 k (V.tup [(V.int .i64 (0 : Int)), (V.int .i64 (2 : Int))])
abbrev av_R28_ReadUint (a0 : Rows) (a1 a2 : Int) : List V := [(V.data [.int .u8] a0), (V.int .i64 a1), (V.int .i64 a2)]
theorem spec_R28_ReadUint_eq {R : Type} (a0 : Rows) (a1 a2 : Int) (k : V → Option R) : fnK env_R28_ReadUint Tryz.f32 (av_R28_ReadUint a0 a1 a2) k = spec_R28_ReadUint a0 a1 a2 k := by kernel_rfl
theorem ok_R28_ReadUint (a0 : Rows) (a1 a2 : Int) {v : V} (h : Real (av_R28_ReadUint a0 a1 a2) → spec_R28_ReadUint a0 a1 a2 some = some v) : FunOK Tryz.prog 32 (av_R28_ReadUint a0 a1 a2) v :=
  fn_ok (fn := Tryz.f32) (c := bodyOf Tryz.f32) (E := env_R28_ReadUint) ⟨by kernel_rfl, goodNil, rfl, goodS_no⟩ rfl (by kernel_rfl) (by kernel_rfl) (by kernel_rfl)
  (loopsOK_of _ (by
    have e : loopsOf (bodyOf Tryz.f32) = [(0, loopAt Tryz.f32 0)] := by kernel_rfl
    rw [e]
    simp only [List.forall_mem_cons, List.not_mem_nil, false_implies, implies_true, and_true]
    exact good_R28_ReadUint_0))
  (fun hr => (spec_R28_ReadUint_eq a0 a1 a2 some).trans (h hr))
theorem mk_R28_ReadUint (h : ∀ (a0 : Rows) (a1 a2 : Int), pre_R28_ReadUint a0 a1 a2 = true → Real (av_R28_ReadUint a0 a1 a2) → spec_R28_ReadUint a0 a1 a2 some = some (V.tup [(V.int .i64 (m_R28_ReadUint a0 a1 a2).1), (V.int .i64 (m_R28_ReadUint a0 a1 a2).2)])) : G_R28_ReadUint := goodHook1 fun l hp => by
  unfold hp_R28_ReadUint at hp
  split at hp
  · rename_i x0 x1 x2
    exact ok_R28_ReadUint x0 x1 x2 fun hr => h x0 x1 x2 hp hr
  · cases hp
noncomputable def env_R28_Known {R : Type} : Env R := ⟨Tryz.prog, callNil, fun _ _ _ _ _ => none, Tryz.f61.results.toList, maskTab 21 [(0, 0xfccc1), (1, 0x4)], maskAt [(2, 1)], noSort⟩
noncomputable def spec_R28_Known {R : Type} (a0 : Int) (k : V → Option R) : Option R :=
 let b1 : Bool := (decide (a0 ≥ (65440 : Int)))
 let b2 : Bool := (decide (a0 ≤ (65445 : Int)))
 let b3 : Bool := (bif b1 then b2 else false)
 let b4 : Bool := (bif b3 then true else (a0 == (65455 : Int)))
 let b5 : Bool := (decide (a0 ≥ (65456 : Int)))
 bif (b4 == false) then
 let b6 : Bool := (decide (a0 ≤ (65458 : Int)))
 let b7 : Bool := (bif b5 then b6 else false)
 k (V.bool b7)
 else
 k (V.bool true)
abbrev av_R28_Known (a0 : Int) : List V := [(V.int .i64 a0)]
theorem spec_R28_Known_eq {R : Type} (a0 : Int) (k : V → Option R) : fnK env_R28_Known Tryz.f61 (av_R28_Known a0) k = spec_R28_Known a0 k := by kernel_rfl
theorem ok_R28_Known (a0 : Int) {v : V} (h : Real (av_R28_Known a0) → spec_R28_Known a0 some = some v) : FunOK Tryz.prog 61 (av_R28_Known a0) v :=
  fn_ok (fn := Tryz.f61) (c := bodyOf Tryz.f61) (E := env_R28_Known) ⟨by kernel_rfl, goodNil, rfl, goodS_no⟩ rfl (by kernel_rfl) (by kernel_rfl) (by kernel_rfl)
  (loopsOK_of _ (by
    have e : loopsOf (bodyOf Tryz.f61) = [] := by kernel_rfl
    rw [e]
    intro p hp; cases hp))
  (fun hr => (spec_R28_Known_eq a0 some).trans (h hr))
theorem mk_R28_Known (h : ∀ (a0 : Int), Real (av_R28_Known a0) → spec_R28_Known a0 some = some (V.bool (m_R28_Known a0))) : G_R28_Known := goodHook1 fun l hp => by
  unfold hp_R28_Known at hp
  split at hp
  · rename_i x0
    exact ok_R28_Known x0 fun hr => h x0 hr
  · cases hp
theorem au_R28_Known (a0 : Int) : spec_R28_Known a0 some = some ((fun (m : Bool) => (V.bool m)) (m_R28_Known a0)) := by
  repeat' (first | rfl | refine bif_t (v := (fun (m : Bool) => (V.bool m))) ?_ ?_)
theorem good_R28_Known_of : G_R28_Known := mk_R28_Known (fun _ _ => au_R28_Known _)
noncomputable def env_R28_Bare {R : Type} : Env R := ⟨Tryz.prog, callNil, fun _ _ _ _ _ => none, Tryz.f62.results.toList, maskTab 13 [(0, 0xcc1), (1, 0x4)], maskAt [(2, 1)], noSort⟩
noncomputable def spec_R28_Bare {R : Type} (a0 : Int) (k : V → Option R) : Option R :=
 let b1 : Bool := (bif (a0 == (65440 : Int)) then true else (a0 == (65458 : Int)))
 let b2 : Bool := (bif b1 then true else (a0 == (65455 : Int)))
 k (V.bool b2)
abbrev av_R28_Bare (a0 : Int) : List V := [(V.int .i64 a0)]
theorem spec_R28_Bare_eq {R : Type} (a0 : Int) (k : V → Option R) : fnK env_R28_Bare Tryz.f62 (av_R28_Bare a0) k = spec_R28_Bare a0 k := by kernel_rfl
theorem ok_R28_Bare (a0 : Int) {v : V} (h : Real (av_R28_Bare a0) → spec_R28_Bare a0 some = some v) : FunOK Tryz.prog 62 (av_R28_Bare a0) v :=
  fn_ok (fn := Tryz.f62) (c := bodyOf Tryz.f62) (E := env_R28_Bare) ⟨by kernel_rfl, goodNil, rfl, goodS_no⟩ rfl (by kernel_rfl) (by kernel_rfl) (by kernel_rfl)
  (loopsOK_of _ (by
    have e : loopsOf (bodyOf Tryz.f62) = [] := by kernel_rfl
    rw [e]
    intro p hp; cases hp))
  (fun hr => (spec_R28_Bare_eq a0 some).trans (h hr))
theorem mk_R28_Bare (h : ∀ (a0 : Int), Real (av_R28_Bare a0) → spec_R28_Bare a0 some = some (V.bool (m_R28_Bare a0))) : G_R28_Bare := goodHook1 fun l hp => by
  unfold hp_R28_Bare at hp
  split at hp
  · rename_i x0
    exact ok_R28_Bare x0 fun hr => h x0 hr
  · cases hp
theorem au_R28_Bare (a0 : Int) : spec_R28_Bare a0 some = some ((fun (m : Bool) => (V.bool m)) (m_R28_Bare a0)) := by
  repeat' (first | rfl | refine bif_t (v := (fun (m : Bool) => (V.bool m))) ?_ ?_)
theorem good_R28_Bare_of : G_R28_Bare := mk_R28_Bare (fun _ _ => au_R28_Bare _)
noncomputable def env_R28_Read {R : Type} : Env R := ⟨Tryz.prog, callCons 32 c_R28_ReadUint (callCons 61 c_R28_Known (callCons 62 c_R28_Bare callNil)), fun _ _ _ _ _ => none, Tryz.f31.results.toList, maskTab 76 [(0, 0xf013), (1, 0x10013), (2, 0x70), (3, 0xd3), (4, 0x20000d3), (5, 0x70), (6, 0x40000093), (7, 0x70), (8, 0x200000093), (9, 0x70), (10, 0x1d3), (11, 0x4000000001d3), (12, 0x70), (13, 0x4000000000193), (14, 0x70), (15, 0x400000000000193), (16, 0x70), (17, 0x70)], maskAt [(2, 3), (4, 11), (6, 15), (8, 23), (10, 25), (12, 30), (14, 33), (16, 37), (18, 39), (20, 46), (22, 55), (24, 57), (26, 62), (28, 64), (30, 68), (32, 75), (34, 79)], noSort⟩
noncomputable def spec_R28_Read {R : Type} (a0 : Rows) (a1 : Int) (k : V → Option R) : Option R :=
 let b1 : Bool := (decide (a1 < (0 : Int)))
 bif (b1 == false) then
 let x2 : Int := (((List.length a0) : Nat) : Int)
 bif (decide (a1 > x2)) then
 k (V.tup [(V.agg [(V.int .i64 (0 : Int)), (V.data [.int .u8] [])]), (V.int .i64 (0 : Int)), (V.int .i64 (2 : Int))])
 else
 bif (pre_R28_ReadUint a0 a1 (2 : Int)) then
 let c3 : Int × Int := (m_R28_ReadUint a0 a1 (2 : Int))
 bif (c3.2 != (0 : Int)) then
 k (V.tup [(V.agg [(V.int .i64 (0 : Int)), (V.data [.int .u8] [])]), (V.int .i64 (0 : Int)), (V.int .i64 c3.2)])
 else
 let c4 : Bool := (m_R28_Known c3.1)
 bif (!c4) then
 k (V.tup [(V.agg [(V.int .i64 (0 : Int)), (V.data [.int .u8] [])]), (V.int .i64 (0 : Int)), (V.int .i64 (11 : Int))])
 else
 let c5 : Bool := (m_R28_Bare c3.1)
 bif c5 then
 let x6 : Int := (IntKind.wrap .i64 (a1 + (2 : Int)))
 k (V.tup [(V.agg [(V.int .i64 c3.1), (V.data [.int .u8] [])]), (V.int .i64 x6), (V.int .i64 (0 : Int))])
 else
 let x7 : Int := (IntKind.wrap .i64 (a1 + (2 : Int)))
 bif (pre_R28_ReadUint a0 x7 (2 : Int)) then
 let c8 : Int × Int := (m_R28_ReadUint a0 x7 (2 : Int))
 bif (c8.2 != (0 : Int)) then
 k (V.tup [(V.agg [(V.int .i64 (0 : Int)), (V.data [.int .u8] [])]), (V.int .i64 (0 : Int)), (V.int .i64 c8.2)])
 else
 let b9 : Bool := (decide (c8.1 < (2 : Int)))
 bif b9 then
 k (V.tup [(V.agg [(V.int .i64 (0 : Int)), (V.data [.int .u8] [])]), (V.int .i64 (0 : Int)), (V.int .i64 (4 : Int))])
 else
 let x10 : Int := (((List.length a0) : Nat) : Int)
 let x11 : Int := (IntKind.wrap .i64 (x10 - a1))
 let x12 : Int := (IntKind.wrap .i64 (x11 - (2 : Int)))
 bif (decide (x12 < c8.1)) then
 k (V.tup [(V.agg [(V.int .i64 (0 : Int)), (V.data [.int .u8] [])]), (V.int .i64 (0 : Int)), (V.int .i64 (7 : Int))])
 else
 let x13 : Int := (IntKind.wrap .i64 (a1 + (4 : Int)))
 let x14 : Int := (IntKind.wrap .i64 (a1 + (2 : Int)))
 let x15 : Int := (IntKind.wrap .i64 (x14 + c8.1))
 bif (((decide ((0 : Int) ≤ x13)) && (decide (x13 ≤ x15))) && (decide (x15 ≤ (((List.length a0) : Nat) : Int)))) then
 let r16 : Rows := (List.drop (Int.toNat x13) (List.take (Int.toNat x15) a0))
 bif (roomOK ((0 : Nat) + (List.length r16)) 1) then
 let x17 : Int := (IntKind.wrap .i64 (a1 + (2 : Int)))
 let x18 : Int := (IntKind.wrap .i64 (x17 + c8.1))
 k (V.tup [(V.agg [(V.int .i64 c3.1), (V.data [.int .u8] ([] ++ r16))]), (V.int .i64 x18), (V.int .i64 (0 : Int))])
 else none
 else none
 else none
 else none
 else
 k (V.tup [(V.agg [(V.int .i64 (0 : Int)), (V.data [.int .u8] [])]), (V.int .i64 (0 : Int)), (V.int .i64 (2 : Int))])
abbrev av_R28_Read (a0 : Rows) (a1 : Int) : List V := [(V.data [.int .u8] a0), (V.int .i64 a1)]
theorem spec_R28_Read_eq {R : Type} (a0 : Rows) (a1 : Int) (k : V → Option R) : fnK env_R28_Read Tryz.f31 (av_R28_Read a0 a1) k = spec_R28_Read a0 a1 k := by kernel_rfl
theorem ok_R28_Read (h_R28_ReadUint : G_R28_ReadUint) (h_R28_Known : G_R28_Known) (h_R28_Bare : G_R28_Bare) (a0 : Rows) (a1 : Int) {v : V} (h : Real (av_R28_Read a0 a1) → spec_R28_Read a0 a1 some = some v) : FunOK Tryz.prog 31 (av_R28_Read a0 a1) v :=
  fn_ok (fn := Tryz.f31) (c := bodyOf Tryz.f31) (E := env_R28_Read) ⟨by kernel_rfl, (goodCons h_R28_ReadUint (goodCons h_R28_Known (goodCons h_R28_Bare goodNil))), rfl, goodS_no⟩ rfl (by kernel_rfl) (by kernel_rfl) (by kernel_rfl)
  (loopsOK_of _ (by
    have e : loopsOf (bodyOf Tryz.f31) = [] := by kernel_rfl
    rw [e]
    intro p hp; cases hp))
  (fun hr => (spec_R28_Read_eq a0 a1 some).trans (h hr))
theorem mk_R28_Read (h_R28_ReadUint : G_R28_ReadUint) (h_R28_Known : G_R28_Known) (h_R28_Bare : G_R28_Bare) (h : ∀ (a0 : Rows) (a1 : Int), pre_R28_Read a0 a1 = true → Real (av_R28_Read a0 a1) → spec_R28_Read a0 a1 some = some (V.tup [(SSegment.v (m_R28_Read a0 a1).1), (V.int .i64 (m_R28_Read a0 a1).2.1), (V.int .i64 (m_R28_Read a0 a1).2.2)])) : G_R28_Read := goodHook1 fun l hp => by
  unfold hp_R28_Read at hp
  split at hp
  · rename_i x0 x1
    exact ok_R28_Read h_R28_ReadUint h_R28_Known h_R28_Bare x0 x1 fun hr => h x0 x1 hp hr
  · cases hp
theorem au_R28_Read (a0 : Rows) (a1 : Int) : pre_R28_Read a0 a1 = true → spec_R28_Read a0 a1 some = some ((fun (m : SSegment × Int × Int) => (V.tup [(SSegment.v m.1), (V.int .i64 m.2.1), (V.int .i64 m.2.2)])) (m_R28_Read a0 a1)) := by
  repeat' (first | exact fun _ => rfl | exact fun h => absurd h (by decide) | refine bif_p (v := (fun (m : SSegment × Int × Int) => (V.tup [(SSegment.v m.1), (V.int .i64 m.2.1), (V.int .i64 m.2.2)]))) ?_ ?_)
theorem good_R28_Read_of (h_R28_ReadUint : G_R28_ReadUint) (h_R28_Known : G_R28_Known) (h_R28_Bare : G_R28_Bare) : G_R28_Read := mk_R28_Read h_R28_ReadUint h_R28_Known h_R28_Bare (fun _ _ hp _ => au_R28_Read _ _ hp)
noncomputable def fuel_R28_All_0 (r0_0 : Rows) (i0_1 : Int) (r0_2 : Rows) : Nat :=
 List.length r0_0 + 3
noncomputable def step_R28_All_0 {R : Type} (r0_0 : Rows) (i0_1 : Int) (r0_2 : Rows) (again : Int → Rows → Option R) (kn : Int → Rows → Option R) (kr : V → Option R) : Option R :=
 bif (pre_R28_Read r0_0 i0_1) then
 let c1 : SSegment × Int × Int := (m_R28_Read r0_0 i0_1)
 bif (pre_R28_ReadUint r0_0 i0_1 (2 : Int)) then
 let c2 : Int × Int := (m_R28_ReadUint r0_0 i0_1 (2 : Int))
 bif ((c2.2 == (0 : Int)) == true) then
 let b3 : Bool := (bif (c2.1 == (65456 : Int)) then true else (c2.1 == (65458 : Int)))
 let b4 : Bool := (bif b3 then true else (c2.1 == (65455 : Int)))
 bif b4 then
 kr (V.tup [(V.data SSegment.sh r0_2), (V.int .i64 i0_1), (V.int .i64 (0 : Int))])
 else
 bif (c1.2.2 != (0 : Int)) then
 kr (V.tup [(V.data SSegment.sh []), (V.int .i64 (0 : Int)), (V.int .i64 c1.2.2)])
 else
 bif (roomOK ((List.length r0_2) + (1 : Nat)) 32) then
 let r5 : Rows := (r0_2 ++ [(SSegment.row c1.1)])
 again c1.2.1 r5
 else none
 else
 bif (c1.2.2 != (0 : Int)) then
 kr (V.tup [(V.data SSegment.sh []), (V.int .i64 (0 : Int)), (V.int .i64 c1.2.2)])
 else
 bif (roomOK ((List.length r0_2) + (1 : Nat)) 32) then
 let r6 : Rows := (r0_2 ++ [(SSegment.row c1.1)])
 again c1.2.1 r6
 else none
 else none
 else none
noncomputable def loop_R28_All_0 {R : Type} (r0_0 : Rows) : Nat → Int → Rows → (Int → Rows → Option R) → (V → Option R) → Option R
  | 0, _, _, _, _ => none
  | n + 1, i0_1, r0_2, kn, kr => step_R28_All_0 r0_0 i0_1 r0_2 (fun yi0_1 yr0_2 => loop_R28_All_0 r0_0 n yi0_1 yr0_2 kn kr) kn kr
noncomputable def shape_R28_All_0 : ST := ⟨.data [.int .u8] :: .int .i64 :: .undef :: .undef :: .vs 3 :: unds 44 [], [(3, .vec SSegment.sh false)], 4⟩
noncomputable def st_R28_All_0 (r0_0 : Rows) (i0_1 : Int) (r0_2 : Rows) : St := shape_R28_All_0.put [.r r0_0, .i i0_1, .r r0_2]
noncomputable def hook_R28_All_0 {R : Type} : LoopG R := fun l kn _ kr => match l with
  | .r r0_0 :: .i i0_1 :: .r r0_2 :: [] => loop_R28_All_0 r0_0 (fuel_R28_All_0 r0_0 i0_1 r0_2) i0_1 r0_2 (fun yi0_1 yr0_2 => kn (st_R28_All_0 r0_0 yi0_1 yr0_2)) kr
  | _ => none
noncomputable def env_R28_All {R : Type} : Env R := ⟨Tryz.prog, callCons 31 c_R28_Read (callCons 32 c_R28_ReadUint callNil), fun id => bif Nat.beq id 0 then loopAlt shape_R28_All_0 hook_R28_All_0 loopNil else (fun _ _ _ _ _ => none) id, Tryz.f15.results.toList, maskTab 49 [(0, 0x3ff0000013), (1, 0x3ff0000393), (2, 0x3ff0000f93), (3, 0x7ff0000393), (4, 0x70), (5, 0x43ff0000391), (6, 0x70), (7, 0x3ff0000111), (8, 0x3ff0000013)], maskAt [(1, 3), (2, 7), (4, 18), (6, 26), (8, 40), (10, 45), (12, 47), (14, 51), (16, 56)], noSort⟩
theorem step_R28_All_0_eq {R : Type} (r0_0 : Rows) (si0_1 : Int) (sr0_2 : Rows) (kn : St → Option R) (kx : Nat → St → Option R) (kr : V → Option R) (n : Nat) (i0_1 : Int) (r0_2 : Rows) :
    loopN env_R28_All 0 (loopAt Tryz.f15 0) (st_R28_All_0 r0_0 si0_1 sr0_2) kn kx kr (n + 1) (st_R28_All_0 r0_0 i0_1 r0_2) =
    step_R28_All_0 r0_0 i0_1 r0_2 (fun yi0_1 yr0_2 => loopN env_R28_All 0 (loopAt Tryz.f15 0) (st_R28_All_0 r0_0 si0_1 sr0_2) kn kx kr n (st_R28_All_0 r0_0 yi0_1 yr0_2)) (fun yi0_1 yr0_2 => kn (st_R28_All_0 r0_0 yi0_1 yr0_2)) kr := by kernel_rfl
theorem loop_R28_All_0_eq {R : Type} (r0_0 : Rows) (si0_1 : Int) (sr0_2 : Rows) (kn : St → Option R) (kx : Nat → St → Option R) (kr : V → Option R) : ∀ (n : Nat) (i0_1 : Int) (r0_2 : Rows),
    loop_R28_All_0 r0_0 n i0_1 r0_2 (fun yi0_1 yr0_2 => kn (st_R28_All_0 r0_0 yi0_1 yr0_2)) kr = loopN env_R28_All 0 (loopAt Tryz.f15 0) (st_R28_All_0 r0_0 si0_1 sr0_2) kn kx kr n (st_R28_All_0 r0_0 i0_1 r0_2)
  | 0, _, _ => rfl
  | n + 1, i0_1, r0_2 => by
    rw [step_R28_All_0_eq, loop_R28_All_0]
    congr 1
    funext yi0_1 yr0_2
    exact loop_R28_All_0_eq r0_0 si0_1 sr0_2 kn kx kr n yi0_1 yr0_2
theorem goodl_R28_All_0 {R : Type} {rest} (h : GoodL (R := R) env_R28_All 0 (loopAt Tryz.f15 0) rest) : GoodL (R := R) env_R28_All 0 (loopAt Tryz.f15 0) (loopAlt shape_R28_All_0 hook_R28_All_0 rest) := by
  refine goodL_alt (fun l kn kx kr r h => ?_) h
  unfold hook_R28_All_0 at h
  split at h
  · rename_i r0_0 i0_1 r0_2
    exact ⟨_, (loop_R28_All_0_eq r0_0 i0_1 r0_2 kn kx kr _ i0_1 r0_2).symm.trans h⟩
  · cases h
theorem good_R28_All_0 {R : Type} : GoodLoop (R := R) env_R28_All 0 (loopAt Tryz.f15 0) := goodL_loop (g := loopAlt shape_R28_All_0 hook_R28_All_0 loopNil) (fun _ _ _ _ => rfl) (goodl_R28_All_0 goodL_nil)
noncomputable def spec_R28_All {R : Type} (a0 : Rows) (a1 : Int) (k : V → Option R) : Option R :=
 loop_R28_All_0 a0 (fuel_R28_All_0 a0 a1 []) a1 [] (fun i0_z7 r0_z8 =>
 k (V.tup [(V.data SSegment.sh r0_z8), V.undef, V.undef])) k
abbrev av_R28_All (a0 : Rows) (a1 : Int) : List V := [(V.data [.int .u8] a0), (V.int .i64 a1)]
theorem spec_R28_All_eq {R : Type} (a0 : Rows) (a1 : Int) (k : V → Option R) : fnK env_R28_All Tryz.f15 (av_R28_All a0 a1) k = spec_R28_All a0 a1 k := by kernel_rfl
theorem ok_R28_All (h_R28_Read : G_R28_Read) (h_R28_ReadUint : G_R28_ReadUint) (a0 : Rows) (a1 : Int) {v : V} (h : Real (av_R28_All a0 a1) → spec_R28_All a0 a1 some = some v) : FunOK Tryz.prog 15 (av_R28_All a0 a1) v :=
  fn_ok (fn := Tryz.f15) (c := bodyOf Tryz.f15) (E := env_R28_All) ⟨by kernel_rfl, (goodCons h_R28_Read (goodCons h_R28_ReadUint goodNil)), rfl, goodS_no⟩ rfl (by kernel_rfl) (by kernel_rfl) (by kernel_rfl)
  (loopsOK_of _ (by
    have e : loopsOf (bodyOf Tryz.f15) = [(0, loopAt Tryz.f15 0)] := by kernel_rfl
    rw [e]
    simp only [List.forall_mem_cons, List.not_mem_nil, false_implies, implies_true, and_true]
    exact good_R28_All_0))
  (fun hr => (spec_R28_All_eq a0 a1 some).trans (h hr))
theorem mk_R28_All (h_R28_Read : G_R28_Read) (h_R28_ReadUint : G_R28_ReadUint) (h : ∀ (a0 : Rows) (a1 : Int), pre_R28_All a0 a1 = true → Real (av_R28_All a0 a1) → spec_R28_All a0 a1 some = some (V.tup [(V.data SSegment.sh (m_R28_All a0 a1).1), (V.int .i64 (m_R28_All a0 a1).2.1), (V.int .i64 (m_R28_All a0 a1).2.2)])) : G_R28_All := goodHook1 fun l hp => by
  unfold hp_R28_All at hp
  split at hp
  · rename_i x0 x1
    exact ok_R28_All h_R28_Read h_R28_ReadUint x0 x1 fun hr => h x0 x1 hp hr
  · cases hp
noncomputable def env_R29_framed {R : Type} : Env R := ⟨Tryz.prog, callNil, fun _ _ _ _ _ => none, Tryz.f33.results.toList, maskTab 21 [(0, 0xe), (1, 0x40c), (2, 0x40), (3, 0x800c), (4, 0x40), (5, 0x100000), (6, 0x40), (7, 0x40)], maskAt [(2, 2), (4, 6), (6, 7), (8, 12), (10, 13), (12, 18), (14, 19)], noSort⟩
noncomputable def spec_R29_framed {R : Type} (a0 : SSegment) (a1 a2 : Int) (k : V → Option R) : Option R :=
 bif (a0.Code != a1) then
 k (V.int .i64 (11 : Int))
 else
 let x1 : Int := (((List.length a0.Payload) : Nat) : Int)
 bif (decide (x1 < a2)) then
 k (V.int .i64 (7 : Int))
 else
 let x2 : Int := (((List.length a0.Payload) : Nat) : Int)
 bif (decide (x2 > a2)) then
 k (V.int .i64 (9 : Int))
 else
 k (V.int .i64 (0 : Int))
abbrev av_R29_framed (a0 : SSegment) (a1 a2 : Int) : List V := [(SSegment.v a0), (V.int .i64 a1), (V.int .i64 a2)]
theorem spec_R29_framed_eq {R : Type} (a0 : SSegment) (a1 a2 : Int) (k : V → Option R) : fnK env_R29_framed Tryz.f33 (av_R29_framed a0 a1 a2) k = spec_R29_framed a0 a1 a2 k := by kernel_rfl
theorem ok_R29_framed (a0 : SSegment) (a1 a2 : Int) {v : V} (h : Real (av_R29_framed a0 a1 a2) → spec_R29_framed a0 a1 a2 some = some v) : FunOK Tryz.prog 33 (av_R29_framed a0 a1 a2) v :=
  fn_ok (fn := Tryz.f33) (c := bodyOf Tryz.f33) (E := env_R29_framed) ⟨by kernel_rfl, goodNil, rfl, goodS_no⟩ rfl (by kernel_rfl) (by kernel_rfl) (by kernel_rfl)
  (loopsOK_of _ (by
    have e : loopsOf (bodyOf Tryz.f33) = [] := by kernel_rfl
    rw [e]
    intro p hp; cases hp))
  (fun hr => (spec_R29_framed_eq a0 a1 a2 some).trans (h hr))
theorem mk_R29_framed (h : ∀ (a0 : SSegment) (a1 a2 : Int), Real (av_R29_framed a0 a1 a2) → spec_R29_framed a0 a1 a2 some = some (V.int .i64 (m_R29_framed a0 a1 a2))) : G_R29_framed := goodHook1 fun l hp => by
  unfold hp_R29_framed at hp
  split at hp
  · rename_i x0 x1 x2 x3
    exact ok_R29_framed (SSegment.mk x0 x1) x2 x3 fun hr => h (SSegment.mk x0 x1) x2 x3 hr
  · cases hp
theorem au_R29_framed (a0 : SSegment) (a1 a2 : Int) : spec_R29_framed a0 a1 a2 some = some ((fun (m : Int) => (V.int .i64 m)) (m_R29_framed a0 a1 a2)) := by
  repeat' (first | rfl | refine bif_t (v := (fun (m : Int) => (V.int .i64 m))) ?_ ?_)
theorem good_R29_framed_of : G_R29_framed := mk_R29_framed (fun _ _ _ _ => au_R29_framed _ _ _)
noncomputable def fuel_R29_get_0 (r0_0 : Rows) (i0_1 i0_2 i0_3 i0_4 : Int) : Nat :=
 Int.toNat (i0_2 - i0_4) + 1
noncomputable def step_R29_get_0 {R : Type} (r0_0 : Rows) (i0_1 i0_2 : Int) (i0_3 i0_4 : Int) (again : Int → Int → Option R) (kn : Int → Int → Option R) : Option R :=
 bif (decide (i0_4 < i0_2)) then
 let x1 : Int := (IntKind.wrap .i64 ((256 : Int) * i0_3))
 let x2 : Int := (IntKind.wrap .i64 (i0_1 + i0_4))
 bif (inR x2 (List.length r0_0)) then
 let w3 : List V := (List.getD r0_0 (Int.toNat x2) [])
 let x4 : Int := (V.toInt (List.getD w3 0 V.undef))
 let x5 : Int := (IntKind.wrap .i64 (x1 + (IntKind.wrap .i64 x4)))
 let x6 : Int := (IntKind.wrap .i64 (i0_4 + (1 : Int)))
 again x5 x6
 else none
 else
 kn i0_3 i0_4
noncomputable def loop_R29_get_0 {R : Type} (r0_0 : Rows) (i0_1 i0_2 : Int) : Nat → Int → Int → (Int → Int → Option R) → Option R
  | 0, _, _, _ => none
  | n + 1, i0_3, i0_4, kn => step_R29_get_0 r0_0 i0_1 i0_2 i0_3 i0_4 (fun yi0_3 yi0_4 => loop_R29_get_0 r0_0 i0_1 i0_2 n yi0_3 yi0_4 kn) kn
noncomputable def shape_R29_get_0 : ST := ⟨.data [.int .u8] :: .int .i64 :: .int .i64 :: unds 4 (.int .i64 :: .int .i64 :: unds 16 []), [], 3⟩
noncomputable def st_R29_get_0 (r0_0 : Rows) (i0_1 i0_2 : Int) (i0_3 i0_4 : Int) : St := shape_R29_get_0.put [.r r0_0, .i i0_1, .i i0_2, .i i0_3, .i i0_4]
noncomputable def hook_R29_get_0 {R : Type} : LoopG R := fun l kn _ _ => match l with
  | .r r0_0 :: .i i0_1 :: .i i0_2 :: .i i0_3 :: .i i0_4 :: [] => loop_R29_get_0 r0_0 i0_1 i0_2 (fuel_R29_get_0 r0_0 i0_1 i0_2 i0_3 i0_4) i0_3 i0_4 (fun yi0_3 yi0_4 => kn (st_R29_get_0 r0_0 i0_1 i0_2 yi0_3 yi0_4))
  | _ => none
noncomputable def env_R29_get {R : Type} : Env R := ⟨Tryz.prog, callNil, fun id => bif Nat.beq id 0 then loopAlt shape_R29_get_0 hook_R29_get_0 loopNil else (fun _ _ _ _ _ => none) id, Tryz.f34.results.toList, maskTab 25 [(0, 0x7), (1, 0x87), (2, 0x187), (3, 0x987), (4, 0x187), (5, 0x187), (6, 0x40)], maskAt [(1, 3), (2, 1), (4, 2), (6, 7), (8, 21), (10, 10), (12, 24)], noSort⟩
theorem step_R29_get_0_eq {R : Type} (r0_0 : Rows) (i0_1 i0_2 : Int) (si0_3 si0_4 : Int) (kn : St → Option R) (kx : Nat → St → Option R) (kr : V → Option R) (n : Nat) (i0_3 i0_4 : Int) :
    loopN env_R29_get 0 (loopAt Tryz.f34 0) (st_R29_get_0 r0_0 i0_1 i0_2 si0_3 si0_4) kn kx kr (n + 1) (st_R29_get_0 r0_0 i0_1 i0_2 i0_3 i0_4) =
    step_R29_get_0 r0_0 i0_1 i0_2 i0_3 i0_4 (fun yi0_3 yi0_4 => loopN env_R29_get 0 (loopAt Tryz.f34 0) (st_R29_get_0 r0_0 i0_1 i0_2 si0_3 si0_4) kn kx kr n (st_R29_get_0 r0_0 i0_1 i0_2 yi0_3 yi0_4)) (fun yi0_3 yi0_4 => kn (st_R29_get_0 r0_0 i0_1 i0_2 yi0_3 yi0_4)) := by kernel_rfl
theorem loop_R29_get_0_eq {R : Type} (r0_0 : Rows) (i0_1 i0_2 : Int) (si0_3 si0_4 : Int) (kn : St → Option R) (kx : Nat → St → Option R) (kr : V → Option R) : ∀ (n : Nat) (i0_3 i0_4 : Int),
    loop_R29_get_0 r0_0 i0_1 i0_2 n i0_3 i0_4 (fun yi0_3 yi0_4 => kn (st_R29_get_0 r0_0 i0_1 i0_2 yi0_3 yi0_4)) = loopN env_R29_get 0 (loopAt Tryz.f34 0) (st_R29_get_0 r0_0 i0_1 i0_2 si0_3 si0_4) kn kx kr n (st_R29_get_0 r0_0 i0_1 i0_2 i0_3 i0_4)
  | 0, _, _ => rfl
  | n + 1, i0_3, i0_4 => by
    rw [step_R29_get_0_eq, loop_R29_get_0]
    congr 1
    funext yi0_3 yi0_4
    exact loop_R29_get_0_eq r0_0 i0_1 i0_2 si0_3 si0_4 kn kx kr n yi0_3 yi0_4
theorem goodl_R29_get_0 {R : Type} {rest} (h : GoodL (R := R) env_R29_get 0 (loopAt Tryz.f34 0) rest) : GoodL (R := R) env_R29_get 0 (loopAt Tryz.f34 0) (loopAlt shape_R29_get_0 hook_R29_get_0 rest) := by
  refine goodL_alt (fun l kn kx kr r h => ?_) h
  unfold hook_R29_get_0 at h
  split at h
  · rename_i r0_0 i0_1 i0_2 i0_3 i0_4
    exact ⟨_, (loop_R29_get_0_eq r0_0 i0_1 i0_2 i0_3 i0_4 kn kx kr _ i0_3 i0_4).symm.trans h⟩
  · cases h
theorem good_R29_get_0 {R : Type} : GoodLoop (R := R) env_R29_get 0 (loopAt Tryz.f34 0) := goodL_loop (g := loopAlt shape_R29_get_0 hook_R29_get_0 loopNil) (fun _ _ _ _ => rfl) (goodl_R29_get_0 goodL_nil)
noncomputable def spec_R29_get {R : Type} (a0 : Rows) (a1 a2 : Int) (k : V → Option R) : Option R :=
 loop_R29_get_0 a0 a1 a2 (fuel_R29_get_0 a0 a1 a2 (0 : Int) (0 : Int)) (0 : Int) (0 : Int) (fun i0_z7 i0_z8 =>
 k (V.int .i64 i0_z7))
abbrev av_R29_get (a0 : Rows) (a1 a2 : Int) : List V := [(V.data [.int .u8] a0), (V.int .i64 a1), (V.int .i64 a2)]
theorem spec_R29_get_eq {R : Type} (a0 : Rows) (a1 a2 : Int) (k : V → Option R) : fnK env_R29_get Tryz.f34 (av_R29_get a0 a1 a2) k = spec_R29_get a0 a1 a2 k := by kernel_rfl
theorem ok_R29_get (a0 : Rows) (a1 a2 : Int) {v : V} (h : Real (av_R29_get a0 a1 a2) → spec_R29_get a0 a1 a2 some = some v) : FunOK Tryz.prog 34 (av_R29_get a0 a1 a2) v :=
  fn_ok (fn := Tryz.f34) (c := bodyOf Tryz.f34) (E := env_R29_get) ⟨by kernel_rfl, goodNil, rfl, goodS_no⟩ rfl (by kernel_rfl) (by kernel_rfl) (by kernel_rfl)
  (loopsOK_of _ (by
    have e : loopsOf (bodyOf Tryz.f34) = [(0, loopAt Tryz.f34 0)] := by kernel_rfl
    rw [e]
    simp only [List.forall_mem_cons, List.not_mem_nil, false_implies, implies_true, and_true]
    exact good_R29_get_0))
  (fun hr => (spec_R29_get_eq a0 a1 a2 some).trans (h hr))
theorem mk_R29_get (h : ∀ (a0 : Rows) (a1 a2 : Int), pre_R29_get a0 a1 a2 = true → Real (av_R29_get a0 a1 a2) → spec_R29_get a0 a1 a2 some = some (V.int .i64 (m_R29_get a0 a1 a2))) : G_R29_get := goodHook1 fun l hp => by
  unfold hp_R29_get at hp
  split at hp
  · rename_i x0 x1 x2
    exact ok_R29_get x0 x1 x2 fun hr => h x0 x1 x2 hp hr
  · cases hp
noncomputable def env_R01_Valid {R : Type} : Env R := ⟨Tryz.prog, callNil, fun _ _ _ _ _ => none, Tryz.f63.results.toList, maskTab 35 [(0, 0x39f39cf82), (1, 0x4)], maskAt [(2, 2)], noSort⟩
noncomputable def spec_R01_Valid {R : Type} (a0 : SRect) (k : V → Option R) : Option R :=
 let b1 : Bool := (decide ((0 : Int) ≤ a0.X0))
 let b2 : Bool := (bif b1 then (decide (a0.X0 ≤ a0.X1)) else false)
 let b3 : Bool := (decide (a0.X1 ≤ (4096 : Int)))
 let b4 : Bool := (bif b2 then b3 else false)
 let b5 : Bool := (decide ((0 : Int) ≤ a0.Y0))
 let b6 : Bool := (bif b4 then b5 else false)
 let b7 : Bool := (bif b6 then (decide (a0.Y0 ≤ a0.Y1)) else false)
 let b8 : Bool := (decide (a0.Y1 ≤ (4096 : Int)))
 let b9 : Bool := (bif b7 then b8 else false)
 k (V.bool b9)
abbrev av_R01_Valid (a0 : SRect) : List V := [(SRect.v a0)]
theorem spec_R01_Valid_eq {R : Type} (a0 : SRect) (k : V → Option R) : fnK env_R01_Valid Tryz.f63 (av_R01_Valid a0) k = spec_R01_Valid a0 k := by kernel_rfl
theorem ok_R01_Valid (a0 : SRect) {v : V} (h : Real (av_R01_Valid a0) → spec_R01_Valid a0 some = some v) : FunOK Tryz.prog 63 (av_R01_Valid a0) v :=
  fn_ok (fn := Tryz.f63) (c := bodyOf Tryz.f63) (E := env_R01_Valid) ⟨by kernel_rfl, goodNil, rfl, goodS_no⟩ rfl (by kernel_rfl) (by kernel_rfl) (by kernel_rfl)
  (loopsOK_of _ (by
    have e : loopsOf (bodyOf Tryz.f63) = [] := by kernel_rfl
    rw [e]
    intro p hp; cases hp))
  (fun hr => (spec_R01_Valid_eq a0 some).trans (h hr))
theorem mk_R01_Valid (h : ∀ (a0 : SRect), Real (av_R01_Valid a0) → spec_R01_Valid a0 some = some (V.bool (m_R01_Valid a0))) : G_R01_Valid := goodHook1 fun l hp => by
  unfold hp_R01_Valid at hp
  split at hp
  · rename_i x0 x1 x2 x3
    exact ok_R01_Valid (SRect.mk x0 x1 x2 x3) fun hr => h (SRect.mk x0 x1 x2 x3) hr
  · cases hp
theorem au_R01_Valid (a0 : SRect) : spec_R01_Valid a0 some = some ((fun (m : Bool) => (V.bool m)) (m_R01_Valid a0)) := by
  repeat' (first | rfl | refine bif_t (v := (fun (m : Bool) => (V.bool m))) ?_ ?_)
theorem good_R01_Valid_of : G_R01_Valid := mk_R01_Valid (fun _ _ => au_R01_Valid _)
noncomputable def env_R01_Empty {R : Type} : Env R := ⟨Tryz.prog, callNil, fun _ _ _ _ _ => none, Tryz.f64.results.toList, maskTab 15 [(0, 0x3e02), (1, 0x4)], maskAt [(2, 2)], noSort⟩
noncomputable def spec_R01_Empty {R : Type} (a0 : SRect) (k : V → Option R) : Option R :=
 let b1 : Bool := (bif (decide (a0.X0 ≥ a0.X1)) then true else (decide (a0.Y0 ≥ a0.Y1)))
 k (V.bool b1)
abbrev av_R01_Empty (a0 : SRect) : List V := [(SRect.v a0)]
theorem spec_R01_Empty_eq {R : Type} (a0 : SRect) (k : V → Option R) : fnK env_R01_Empty Tryz.f64 (av_R01_Empty a0) k = spec_R01_Empty a0 k := by kernel_rfl
theorem ok_R01_Empty (a0 : SRect) {v : V} (h : Real (av_R01_Empty a0) → spec_R01_Empty a0 some = some v) : FunOK Tryz.prog 64 (av_R01_Empty a0) v :=
  fn_ok (fn := Tryz.f64) (c := bodyOf Tryz.f64) (E := env_R01_Empty) ⟨by kernel_rfl, goodNil, rfl, goodS_no⟩ rfl (by kernel_rfl) (by kernel_rfl) (by kernel_rfl)
  (loopsOK_of _ (by
    have e : loopsOf (bodyOf Tryz.f64) = [] := by kernel_rfl
    rw [e]
    intro p hp; cases hp))
  (fun hr => (spec_R01_Empty_eq a0 some).trans (h hr))
theorem mk_R01_Empty (h : ∀ (a0 : SRect), Real (av_R01_Empty a0) → spec_R01_Empty a0 some = some (V.bool (m_R01_Empty a0))) : G_R01_Empty := goodHook1 fun l hp => by
  unfold hp_R01_Empty at hp
  split at hp
  · rename_i x0 x1 x2 x3
    exact ok_R01_Empty (SRect.mk x0 x1 x2 x3) fun hr => h (SRect.mk x0 x1 x2 x3) hr
  · cases hp
theorem au_R01_Empty (a0 : SRect) : spec_R01_Empty a0 some = some ((fun (m : Bool) => (V.bool m)) (m_R01_Empty a0)) := by
  repeat' (first | rfl | refine bif_t (v := (fun (m : Bool) => (V.bool m))) ?_ ?_)
theorem good_R01_Empty_of : G_R01_Empty := mk_R01_Empty (fun _ _ => au_R01_Empty _)
noncomputable def env_R23_in {R : Type} : Env R := ⟨Tryz.prog, callNil, fun _ _ _ _ _ => none, Tryz.f65.results.toList, maskTab 15 [(0, 0x3807), (1, 0x40)], maskAt [(2, 1)], noSort⟩
noncomputable def spec_R23_in {R : Type} (a0 a1 a2 : Int) (k : V → Option R) : Option R :=
 let b1 : Bool := (bif (decide (a1 ≤ a0)) then (decide (a0 ≤ a2)) else false)
 k (V.bool b1)
abbrev av_R23_in (a0 a1 a2 : Int) : List V := [(V.int .i64 a0), (V.int .i64 a1), (V.int .i64 a2)]
theorem spec_R23_in_eq {R : Type} (a0 a1 a2 : Int) (k : V → Option R) : fnK env_R23_in Tryz.f65 (av_R23_in a0 a1 a2) k = spec_R23_in a0 a1 a2 k := by kernel_rfl
theorem ok_R23_in (a0 a1 a2 : Int) {v : V} (h : Real (av_R23_in a0 a1 a2) → spec_R23_in a0 a1 a2 some = some v) : FunOK Tryz.prog 65 (av_R23_in a0 a1 a2) v :=
  fn_ok (fn := Tryz.f65) (c := bodyOf Tryz.f65) (E := env_R23_in) ⟨by kernel_rfl, goodNil, rfl, goodS_no⟩ rfl (by kernel_rfl) (by kernel_rfl) (by kernel_rfl)
  (loopsOK_of _ (by
    have e : loopsOf (bodyOf Tryz.f65) = [] := by kernel_rfl
    rw [e]
    intro p hp; cases hp))
  (fun hr => (spec_R23_in_eq a0 a1 a2 some).trans (h hr))
theorem mk_R23_in (h : ∀ (a0 a1 a2 : Int), Real (av_R23_in a0 a1 a2) → spec_R23_in a0 a1 a2 some = some (V.bool (m_R23_in a0 a1 a2))) : G_R23_in := goodHook1 fun l hp => by
  unfold hp_R23_in at hp
  split at hp
  · rename_i x0 x1 x2
    exact ok_R23_in x0 x1 x2 fun hr => h x0 x1 x2 hr
  · cases hp
theorem au_R23_in (a0 a1 a2 : Int) : spec_R23_in a0 a1 a2 some = some ((fun (m : Bool) => (V.bool m)) (m_R23_in a0 a1 a2)) := by
  repeat' (first | rfl | refine bif_t (v := (fun (m : Bool) => (V.bool m))) ?_ ?_)
theorem good_R23_in_of : G_R23_in := mk_R23_in (fun _ _ _ _ => au_R23_in _ _ _)
noncomputable def env_R01_CeilDiv {R : Type} : Env R := ⟨Tryz.prog, callNil, fun _ _ _ _ _ => none, Tryz.f110.results.toList, maskTab 18 [(0, 0x3), (1, 0x83), (2, 0x10), (3, 0x23), (4, 0x4020), (5, 0x20), (6, 0x10)], maskAt [(2, 1), (4, 3), (6, 4), (8, 8), (10, 12), (12, 15)], noSort⟩
noncomputable def spec_R01_CeilDiv {R : Type} (a0 a1 : Int) (k : V → Option R) : Option R :=
 let b1 : Bool := (decide (a1 < (1 : Int)))
 bif b1 then
 k (V.int .i64 (0 : Int))
 else
 bif (a1 != 0) then
 let x2 : Int := (IntKind.wrap .i64 (Int.tdiv a0 a1))
 bif (a1 != 0) then
 let b3 : Bool := (decide ((Int.tmod a0 a1) > (0 : Int)))
 bif b3 then
 let x4 : Int := (IntKind.wrap .i64 (x2 + (1 : Int)))
 k (V.int .i64 x4)
 else
 k (V.int .i64 x2)
 else none
 else none
abbrev av_R01_CeilDiv (a0 a1 : Int) : List V := [(V.int .i64 a0), (V.int .i64 a1)]
theorem spec_R01_CeilDiv_eq {R : Type} (a0 a1 : Int) (k : V → Option R) : fnK env_R01_CeilDiv Tryz.f110 (av_R01_CeilDiv a0 a1) k = spec_R01_CeilDiv a0 a1 k := by kernel_rfl
theorem ok_R01_CeilDiv (a0 a1 : Int) {v : V} (h : Real (av_R01_CeilDiv a0 a1) → spec_R01_CeilDiv a0 a1 some = some v) : FunOK Tryz.prog 110 (av_R01_CeilDiv a0 a1) v :=
  fn_ok (fn := Tryz.f110) (c := bodyOf Tryz.f110) (E := env_R01_CeilDiv) ⟨by kernel_rfl, goodNil, rfl, goodS_no⟩ rfl (by kernel_rfl) (by kernel_rfl) (by kernel_rfl)
  (loopsOK_of _ (by
    have e : loopsOf (bodyOf Tryz.f110) = [] := by kernel_rfl
    rw [e]
    intro p hp; cases hp))
  (fun hr => (spec_R01_CeilDiv_eq a0 a1 some).trans (h hr))
theorem mk_R01_CeilDiv (h : ∀ (a0 a1 : Int), Real (av_R01_CeilDiv a0 a1) → spec_R01_CeilDiv a0 a1 some = some (V.int .i64 (m_R01_CeilDiv a0 a1))) : G_R01_CeilDiv := goodHook1 fun l hp => by
  unfold hp_R01_CeilDiv at hp
  split at hp
  · rename_i x0 x1
    exact ok_R01_CeilDiv x0 x1 fun hr => h x0 x1 hr
  · cases hp
theorem au_R01_CeilDiv (a0 a1 : Int) : pre_R01_CeilDiv a0 a1 = true → spec_R01_CeilDiv a0 a1 some = some ((fun (m : Int) => (V.int .i64 m)) (m_R01_CeilDiv a0 a1)) := by
  repeat' (first | exact fun _ => rfl | exact fun h => absurd h (by decide) | refine bif_p (v := (fun (m : Int) => (V.int .i64 m))) ?_ ?_)
theorem good_R01_CeilDiv_of : G_R01_CeilDiv := mk_R01_CeilDiv (fun _ _ _ => au_R01_CeilDiv _ _ (pt_R01_CeilDiv _ _))
noncomputable def env_R01_Reduce {R : Type} : Env R := ⟨Tryz.prog, callCons 63 c_R01_Valid (callCons 110 c_R01_CeilDiv callNil), fun _ _ _ _ _ => none, Tryz.f66.results.toList, maskTab 44 [(0, 0x199984e), (1, 0x200004e), (2, 0x40), (3, 0x40)], maskAt [(2, 2), (4, 21), (6, 23)], noSort⟩
noncomputable def spec_R01_Reduce {R : Type} (a0 : SRect) (a1 a2 : Int) (k : V → Option R) : Option R :=
 let c1 : Bool := (m_R01_Valid a0)
 let b2 : Bool := (decide (a1 < (1 : Int)))
 let b3 : Bool := (bif (!c1) then true else b2)
 let b4 : Bool := (decide (a1 > (4096 : Int)))
 let b5 : Bool := (bif b3 then true else b4)
 let b6 : Bool := (decide (a2 < (1 : Int)))
 let b7 : Bool := (bif b5 then true else b6)
 let b8 : Bool := (decide (a2 > (4096 : Int)))
 let b9 : Bool := (bif b7 then true else b8)
 bif b9 then
 k (V.agg [(V.int .i64 (0 : Int)), (V.int .i64 (0 : Int)), (V.int .i64 (0 : Int)), (V.int .i64 (0 : Int))])
 else
 let c10 : Int := (m_R01_CeilDiv a0.X0 a1)
 let c11 : Int := (m_R01_CeilDiv a0.Y0 a2)
 let c12 : Int := (m_R01_CeilDiv a0.X1 a1)
 let c13 : Int := (m_R01_CeilDiv a0.Y1 a2)
 k (V.agg [(V.int .i64 c10), (V.int .i64 c11), (V.int .i64 c12), (V.int .i64 c13)])
abbrev av_R01_Reduce (a0 : SRect) (a1 a2 : Int) : List V := [(SRect.v a0), (V.int .i64 a1), (V.int .i64 a2)]
theorem spec_R01_Reduce_eq {R : Type} (a0 : SRect) (a1 a2 : Int) (k : V → Option R) : fnK env_R01_Reduce Tryz.f66 (av_R01_Reduce a0 a1 a2) k = spec_R01_Reduce a0 a1 a2 k := by kernel_rfl
theorem ok_R01_Reduce (h_R01_Valid : G_R01_Valid) (h_R01_CeilDiv : G_R01_CeilDiv) (a0 : SRect) (a1 a2 : Int) {v : V} (h : Real (av_R01_Reduce a0 a1 a2) → spec_R01_Reduce a0 a1 a2 some = some v) : FunOK Tryz.prog 66 (av_R01_Reduce a0 a1 a2) v :=
  fn_ok (fn := Tryz.f66) (c := bodyOf Tryz.f66) (E := env_R01_Reduce) ⟨by kernel_rfl, (goodCons h_R01_Valid (goodCons h_R01_CeilDiv goodNil)), rfl, goodS_no⟩ rfl (by kernel_rfl) (by kernel_rfl) (by kernel_rfl)
  (loopsOK_of _ (by
    have e : loopsOf (bodyOf Tryz.f66) = [] := by kernel_rfl
    rw [e]
    intro p hp; cases hp))
  (fun hr => (spec_R01_Reduce_eq a0 a1 a2 some).trans (h hr))
theorem mk_R01_Reduce (h_R01_Valid : G_R01_Valid) (h_R01_CeilDiv : G_R01_CeilDiv) (h : ∀ (a0 : SRect) (a1 a2 : Int), Real (av_R01_Reduce a0 a1 a2) → spec_R01_Reduce a0 a1 a2 some = some (SRect.v (m_R01_Reduce a0 a1 a2))) : G_R01_Reduce := goodHook1 fun l hp => by
  unfold hp_R01_Reduce at hp
  split at hp
  · rename_i x0 x1 x2 x3 x4 x5
    exact ok_R01_Reduce h_R01_Valid h_R01_CeilDiv (SRect.mk x0 x1 x2 x3) x4 x5 fun hr => h (SRect.mk x0 x1 x2 x3) x4 x5 hr
  · cases hp
theorem au_R01_Reduce (a0 : SRect) (a1 a2 : Int) : spec_R01_Reduce a0 a1 a2 some = some ((fun (m : SRect) => (SRect.v m)) (m_R01_Reduce a0 a1 a2)) := by
  repeat' (first | rfl | refine bif_t (v := (fun (m : SRect) => (SRect.v m))) ?_ ?_)
theorem good_R01_Reduce_of (h_R01_Valid : G_R01_Valid) (h_R01_CeilDiv : G_R01_CeilDiv) : G_R01_Reduce := mk_R01_Reduce h_R01_Valid h_R01_CeilDiv (fun _ _ _ _ => au_R01_Reduce _ _ _)
noncomputable def env_R01_FloorDiv {R : Type} : Env R := ⟨Tryz.prog, callNil, fun _ _ _ _ _ => none, Tryz.f111.results.toList, maskTab 18 [(0, 0x3), (1, 0x83), (2, 0x10), (3, 0x23), (4, 0x4020), (5, 0x20), (6, 0x10)], maskAt [(2, 1), (4, 3), (6, 4), (8, 8), (10, 12), (12, 15)], noSort⟩
noncomputable def spec_R01_FloorDiv {R : Type} (a0 a1 : Int) (k : V → Option R) : Option R :=
 let b1 : Bool := (decide (a1 < (1 : Int)))
 bif b1 then
 k (V.int .i64 (0 : Int))
 else
 bif (a1 != 0) then
 let x2 : Int := (IntKind.wrap .i64 (Int.tdiv a0 a1))
 bif (a1 != 0) then
 let b3 : Bool := (decide ((Int.tmod a0 a1) < (0 : Int)))
 bif b3 then
 let x4 : Int := (IntKind.wrap .i64 (x2 - (1 : Int)))
 k (V.int .i64 x4)
 else
 k (V.int .i64 x2)
 else none
 else none
abbrev av_R01_FloorDiv (a0 a1 : Int) : List V := [(V.int .i64 a0), (V.int .i64 a1)]
theorem spec_R01_FloorDiv_eq {R : Type} (a0 a1 : Int) (k : V → Option R) : fnK env_R01_FloorDiv Tryz.f111 (av_R01_FloorDiv a0 a1) k = spec_R01_FloorDiv a0 a1 k := by kernel_rfl
theorem ok_R01_FloorDiv (a0 a1 : Int) {v : V} (h : Real (av_R01_FloorDiv a0 a1) → spec_R01_FloorDiv a0 a1 some = some v) : FunOK Tryz.prog 111 (av_R01_FloorDiv a0 a1) v :=
  fn_ok (fn := Tryz.f111) (c := bodyOf Tryz.f111) (E := env_R01_FloorDiv) ⟨by kernel_rfl, goodNil, rfl, goodS_no⟩ rfl (by kernel_rfl) (by kernel_rfl) (by kernel_rfl)
  (loopsOK_of _ (by
    have e : loopsOf (bodyOf Tryz.f111) = [] := by kernel_rfl
    rw [e]
    intro p hp; cases hp))
  (fun hr => (spec_R01_FloorDiv_eq a0 a1 some).trans (h hr))
theorem mk_R01_FloorDiv (h : ∀ (a0 a1 : Int), Real (av_R01_FloorDiv a0 a1) → spec_R01_FloorDiv a0 a1 some = some (V.int .i64 (m_R01_FloorDiv a0 a1))) : G_R01_FloorDiv := goodHook1 fun l hp => by
  unfold hp_R01_FloorDiv at hp
  split at hp
  · rename_i x0 x1
    exact ok_R01_FloorDiv x0 x1 fun hr => h x0 x1 hr
  · cases hp
theorem au_R01_FloorDiv (a0 a1 : Int) : pre_R01_FloorDiv a0 a1 = true → spec_R01_FloorDiv a0 a1 some = some ((fun (m : Int) => (V.int .i64 m)) (m_R01_FloorDiv a0 a1)) := by
  repeat' (first | exact fun _ => rfl | exact fun h => absurd h (by decide) | refine bif_p (v := (fun (m : Int) => (V.int .i64 m))) ?_ ?_)
theorem good_R01_FloorDiv_of : G_R01_FloorDiv := mk_R01_FloorDiv (fun _ _ _ => au_R01_FloorDiv _ _ (pt_R01_FloorDiv _ _))
noncomputable def env_R23_tiles {R : Type} : Env R := ⟨Tryz.prog, callCons 110 c_R01_CeilDiv (callCons 111 c_R01_FloorDiv callNil), fun _ _ _ _ _ => none, Tryz.f67.results.toList, maskTab 33 [(0, 0x2), (1, 0xa), (2, 0x1a), (3, 0x30), (4, 0x4)], maskAt [(2, 2), (4, 6), (6, 18), (8, 30)], noSort⟩
noncomputable def spec_R23_tiles {R : Type} (a0 : SHeader) (k : V → Option R) : Option R :=
 let c1 : Int := (m_R01_CeilDiv a0.Area.X1 a0.TileW)
 let c2 : Int := (m_R01_FloorDiv a0.Area.X0 a0.TileW)
 let x3 : Int := (IntKind.wrap .i64 (c1 - c2))
 let c4 : Int := (m_R01_CeilDiv a0.Area.Y1 a0.TileH)
 let c5 : Int := (m_R01_FloorDiv a0.Area.Y0 a0.TileH)
 let x6 : Int := (IntKind.wrap .i64 (c4 - c5))
 let x7 : Int := (IntKind.wrap .i64 (x3 * x6))
 k (V.int .i64 x7)
abbrev av_R23_tiles (a0 : SHeader) : List V := [(SHeader.v a0)]
theorem spec_R23_tiles_eq {R : Type} (a0 : SHeader) (k : V → Option R) : fnK env_R23_tiles Tryz.f67 (av_R23_tiles a0) k = spec_R23_tiles a0 k := by kernel_rfl
theorem ok_R23_tiles (h_R01_CeilDiv : G_R01_CeilDiv) (h_R01_FloorDiv : G_R01_FloorDiv) (a0 : SHeader) {v : V} (h : Real (av_R23_tiles a0) → spec_R23_tiles a0 some = some v) : FunOK Tryz.prog 67 (av_R23_tiles a0) v :=
  fn_ok (fn := Tryz.f67) (c := bodyOf Tryz.f67) (E := env_R23_tiles) ⟨by kernel_rfl, (goodCons h_R01_CeilDiv (goodCons h_R01_FloorDiv goodNil)), rfl, goodS_no⟩ rfl (by kernel_rfl) (by kernel_rfl) (by kernel_rfl)
  (loopsOK_of _ (by
    have e : loopsOf (bodyOf Tryz.f67) = [] := by kernel_rfl
    rw [e]
    intro p hp; cases hp))
  (fun hr => (spec_R23_tiles_eq a0 some).trans (h hr))
theorem mk_R23_tiles (h_R01_CeilDiv : G_R01_CeilDiv) (h_R01_FloorDiv : G_R01_FloorDiv) (h : ∀ (a0 : SHeader), Real (av_R23_tiles a0) → spec_R23_tiles a0 some = some (V.int .i64 (m_R23_tiles a0))) : G_R23_tiles := goodHook1 fun l hp => by
  unfold hp_R23_tiles at hp
  split at hp
  · rename_i x0 x1 x2 x3 x4 x5 x6
    exact ok_R23_tiles h_R01_CeilDiv h_R01_FloorDiv (SHeader.mk (SRect.mk x0 x1 x2 x3) x4 x5 x6) fun hr => h (SHeader.mk (SRect.mk x0 x1 x2 x3) x4 x5 x6) hr
  · cases hp
theorem au_R23_tiles (a0 : SHeader) : spec_R23_tiles a0 some = some ((fun (m : Int) => (V.int .i64 m)) (m_R23_tiles a0)) := by
  repeat' (first | rfl | refine bif_t (v := (fun (m : Int) => (V.int .i64 m))) ?_ ?_)
theorem good_R23_tiles_of (h_R01_CeilDiv : G_R01_CeilDiv) (h_R01_FloorDiv : G_R01_FloorDiv) : G_R23_tiles := mk_R23_tiles h_R01_CeilDiv h_R01_FloorDiv (fun _ _ => au_R23_tiles _)
noncomputable def env_R01_Area {R : Type} : Env R := ⟨Tryz.prog, callCons 63 c_R01_Valid callNil, fun _ _ _ _ _ => none, Tryz.f68.results.toList, maskTab 17 [(0, 0x2), (1, 0x22), (2, 0x4), (3, 0x4)], maskAt [(2, 2), (4, 5), (6, 6)], noSort⟩
noncomputable def spec_R01_Area {R : Type} (a0 : SRect) (k : V → Option R) : Option R :=
 let c1 : Bool := (m_R01_Valid a0)
 bif (!c1) then
 k (V.int .i64 (0 : Int))
 else
 let x2 : Int := (IntKind.wrap .i64 (a0.X1 - a0.X0))
 let x3 : Int := (IntKind.wrap .i64 (a0.Y1 - a0.Y0))
 let x4 : Int := (IntKind.wrap .i64 (x2 * x3))
 k (V.int .i64 x4)
abbrev av_R01_Area (a0 : SRect) : List V := [(SRect.v a0)]
theorem spec_R01_Area_eq {R : Type} (a0 : SRect) (k : V → Option R) : fnK env_R01_Area Tryz.f68 (av_R01_Area a0) k = spec_R01_Area a0 k := by kernel_rfl
theorem ok_R01_Area (h_R01_Valid : G_R01_Valid) (a0 : SRect) {v : V} (h : Real (av_R01_Area a0) → spec_R01_Area a0 some = some v) : FunOK Tryz.prog 68 (av_R01_Area a0) v :=
  fn_ok (fn := Tryz.f68) (c := bodyOf Tryz.f68) (E := env_R01_Area) ⟨by kernel_rfl, (goodCons h_R01_Valid goodNil), rfl, goodS_no⟩ rfl (by kernel_rfl) (by kernel_rfl) (by kernel_rfl)
  (loopsOK_of _ (by
    have e : loopsOf (bodyOf Tryz.f68) = [] := by kernel_rfl
    rw [e]
    intro p hp; cases hp))
  (fun hr => (spec_R01_Area_eq a0 some).trans (h hr))
theorem mk_R01_Area (h_R01_Valid : G_R01_Valid) (h : ∀ (a0 : SRect), Real (av_R01_Area a0) → spec_R01_Area a0 some = some (V.int .i64 (m_R01_Area a0))) : G_R01_Area := goodHook1 fun l hp => by
  unfold hp_R01_Area at hp
  split at hp
  · rename_i x0 x1 x2 x3
    exact ok_R01_Area h_R01_Valid (SRect.mk x0 x1 x2 x3) fun hr => h (SRect.mk x0 x1 x2 x3) hr
  · cases hp
theorem au_R01_Area (a0 : SRect) : spec_R01_Area a0 some = some ((fun (m : Int) => (V.int .i64 m)) (m_R01_Area a0)) := by
  repeat' (first | rfl | refine bif_t (v := (fun (m : Int) => (V.int .i64 m))) ?_ ?_)
theorem good_R01_Area_of (h_R01_Valid : G_R01_Valid) : G_R01_Area := mk_R01_Area h_R01_Valid (fun _ _ => au_R01_Area _)
noncomputable def fuel_R23_Header_0 (i0_0 : Int) (a0 : SHeader) : Nat :=
 let x7 : Int := (((List.length a0.Components) : Nat) : Int)
 Int.toNat (x7 - i0_0) + 1
noncomputable def step_R23_Header_0 {R : Type} (a0 : SHeader) (i0_0 : Int) (again : Int → Option R) (kn : Int → Option R) (kr : V → Option R) : Option R :=
 let x7 : Int := (((List.length a0.Components) : Nat) : Int)
 bif (decide (i0_0 < x7)) then
 bif (inR i0_0 (List.length a0.Components)) then
 let w8 : List V := (List.getD a0.Components (Int.toNat i0_0) [])
 let s9 : SComponent := (SComponent.of w8)
 let c10 : Bool := (m_R23_in s9.Depth (1 : Int) (16 : Int))
 bif ((!c10) == false) then
 let c11 : Bool := (m_R23_in s9.DX (1 : Int) (4 : Int))
 bif ((!c11) == false) then
 let c12 : Bool := (m_R23_in s9.DY (1 : Int) (4 : Int))
 bif ((!c12) == false) then
 let c13 : SRect := (m_R01_Reduce a0.Area s9.DX s9.DY)
 let c14 : Bool := (m_R01_Empty c13)
 bif c14 then
 kr (V.int .i64 (12 : Int))
 else
 let x15 : Int := (IntKind.wrap .i64 (i0_0 + (1 : Int)))
 again x15
 else
 kr (V.int .i64 (12 : Int))
 else
 kr (V.int .i64 (12 : Int))
 else
 kr (V.int .i64 (12 : Int))
 else none
 else
 kn i0_0
noncomputable def loop_R23_Header_0 {R : Type} (a0 : SHeader) : Nat → Int → (Int → Option R) → (V → Option R) → Option R
  | 0, _, _, _ => none
  | n + 1, i0_0, kn, kr => step_R23_Header_0 a0 i0_0 (fun yi0_0 => loop_R23_Header_0 a0 n yi0_0 kn kr) kn kr
noncomputable def shape_R23_Header_0 : ST := ⟨.undef :: .ptr 0 0 0 :: .undef :: .int .i64 :: unds 93 [], [(0, .var SHeader.sh false SHeader.ts)], 32⟩
noncomputable def st_R23_Header_0 (a0 : SHeader) (i0_0 : Int) : St := shape_R23_Header_0.put [.i i0_0, .i a0.Area.X0, .i a0.Area.Y0, .i a0.Area.X1, .i a0.Area.Y1, .i a0.TileW, .i a0.TileH, .r a0.Components]
noncomputable def hook_R23_Header_0 {R : Type} : LoopG R := fun l kn _ kr => match l with
  | .i i0_0 :: .i a0_Area_X0 :: .i a0_Area_Y0 :: .i a0_Area_X1 :: .i a0_Area_Y1 :: .i a0_TileW :: .i a0_TileH :: .r a0_Components :: [] => loop_R23_Header_0 (SHeader.mk (SRect.mk a0_Area_X0 a0_Area_Y0 a0_Area_X1 a0_Area_Y1) a0_TileW a0_TileH a0_Components) (fuel_R23_Header_0 i0_0 (SHeader.mk (SRect.mk a0_Area_X0 a0_Area_Y0 a0_Area_X1 a0_Area_Y1) a0_TileW a0_TileH a0_Components)) i0_0 (fun yi0_0 => kn (st_R23_Header_0 (SHeader.mk (SRect.mk a0_Area_X0 a0_Area_Y0 a0_Area_X1 a0_Area_Y1) a0_TileW a0_TileH a0_Components) yi0_0)) kr
  | _ => none
noncomputable def fuel_R23_Header_2 (i2_0 : Int) (a0 : SHeader) : Nat :=
 let x19 : Int := (((List.length a0.Components) : Nat) : Int)
 Int.toNat (x19 - i2_0) + 1
noncomputable def step_R23_Header_2 {R : Type} (a0 : SHeader) (i2_0 : Int) (again : Int → Option R) (kn : Int → Option R) (kr : V → Option R) : Option R :=
 let x19 : Int := (((List.length a0.Components) : Nat) : Int)
 bif (decide (i2_0 < x19)) then
 bif (inR i2_0 (List.length a0.Components)) then
 let w20 : List V := (List.getD a0.Components (Int.toNat i2_0) [])
 let s21 : SComponent := (SComponent.of w20)
 let c22 : SRect := (m_R01_Reduce a0.Area s21.DX s21.DY)
 let c23 : Int := (m_R01_Area c22)
 let b24 : Bool := (decide (c23 > (1048576 : Int)))
 bif b24 then
 kr (V.int .i64 (5 : Int))
 else
 let x25 : Int := (IntKind.wrap .i64 (i2_0 + (1 : Int)))
 again x25
 else none
 else
 kn i2_0
noncomputable def loop_R23_Header_2 {R : Type} (a0 : SHeader) : Nat → Int → (Int → Option R) → (V → Option R) → Option R
  | 0, _, _, _ => none
  | n + 1, i2_0, kn, kr => step_R23_Header_2 a0 i2_0 (fun yi2_0 => loop_R23_Header_2 a0 n yi2_0 kn kr) kn kr
noncomputable def shape_R23_Header_2 : ST := ⟨.undef :: .ptr 0 0 0 :: unds 3 (.int .i64 :: unds 91 []), [(0, .var SHeader.sh false SHeader.ts)], 83⟩
noncomputable def st_R23_Header_2 (a0 : SHeader) (i2_0 : Int) : St := shape_R23_Header_2.put [.i i2_0, .i a0.Area.X0, .i a0.Area.Y0, .i a0.Area.X1, .i a0.Area.Y1, .i a0.TileW, .i a0.TileH, .r a0.Components]
noncomputable def hook_R23_Header_2 {R : Type} : LoopG R := fun l kn _ kr => match l with
  | .i i2_0 :: .i a0_Area_X0 :: .i a0_Area_Y0 :: .i a0_Area_X1 :: .i a0_Area_Y1 :: .i a0_TileW :: .i a0_TileH :: .r a0_Components :: [] => loop_R23_Header_2 (SHeader.mk (SRect.mk a0_Area_X0 a0_Area_Y0 a0_Area_X1 a0_Area_Y1) a0_TileW a0_TileH a0_Components) (fuel_R23_Header_2 i2_0 (SHeader.mk (SRect.mk a0_Area_X0 a0_Area_Y0 a0_Area_X1 a0_Area_Y1) a0_TileW a0_TileH a0_Components)) i2_0 (fun yi2_0 => kn (st_R23_Header_2 (SHeader.mk (SRect.mk a0_Area_X0 a0_Area_Y0 a0_Area_X1 a0_Area_Y1) a0_TileW a0_TileH a0_Components) yi2_0)) kr
  | _ => none
noncomputable def env_R23_Header {R : Type} : Env R := ⟨Tryz.prog, callCons 63 c_R01_Valid (callCons 64 c_R01_Empty (callCons 65 c_R23_in (callCons 66 c_R01_Reduce (callCons 67 c_R23_tiles (callCons 68 c_R01_Area callNil))))), fun id => bif Nat.beq id 0 then loopAlt shape_R23_Header_0 hook_R23_Header_0 loopNil else (fun id => bif Nat.beq id 2 then loopAlt shape_R23_Header_2 hook_R23_Header_2 loopNil else (fun _ _ _ _ _ => none) id) id, Tryz.f35.results.toList, maskTab 97 [(0, 0xff3cf00003e79e7002), (1, 0xff3cf0000400000002), (2, 0x4), (3, 0xff3cf000000000000a), (4, 0xff3cf000800000000a), (5, 0xff3cf000000000000a), (6, 0xff3cf000000000001a), (7, 0x1ff3cf000000000000a), (8, 0x4), (9, 0x8000000000000000002), (10, 0x4), (11, 0x22), (12, 0x100000000000000000022), (13, 0x22), (14, 0x62), (15, 0x1000000000000000000000022), (16, 0x4), (17, 0x4)], maskAt [(1, 32), (2, 2), (4, 30), (5, 83), (6, 31), (8, 36), (10, 75), (12, 41), (14, 48), (16, 74), (18, 78), (20, 81), (22, 82), (24, 87), (26, 109), (28, 92), (30, 99), (32, 108), (34, 112)], noSort⟩
theorem step_R23_Header_0_eq {R : Type} (a0 : SHeader) (si0_0 : Int) (kn : St → Option R) (kx : Nat → St → Option R) (kr : V → Option R) (n : Nat) (i0_0 : Int) :
    loopN env_R23_Header 0 (loopAt Tryz.f35 0) (st_R23_Header_0 a0 si0_0) kn kx kr (n + 1) (st_R23_Header_0 a0 i0_0) =
    step_R23_Header_0 a0 i0_0 (fun yi0_0 => loopN env_R23_Header 0 (loopAt Tryz.f35 0) (st_R23_Header_0 a0 si0_0) kn kx kr n (st_R23_Header_0 a0 yi0_0)) (fun yi0_0 => kn (st_R23_Header_0 a0 yi0_0)) kr := by kernel_rfl
theorem loop_R23_Header_0_eq {R : Type} (a0 : SHeader) (si0_0 : Int) (kn : St → Option R) (kx : Nat → St → Option R) (kr : V → Option R) : ∀ (n : Nat) (i0_0 : Int),
    loop_R23_Header_0 a0 n i0_0 (fun yi0_0 => kn (st_R23_Header_0 a0 yi0_0)) kr = loopN env_R23_Header 0 (loopAt Tryz.f35 0) (st_R23_Header_0 a0 si0_0) kn kx kr n (st_R23_Header_0 a0 i0_0)
  | 0, _ => rfl
  | n + 1, i0_0 => by
    rw [step_R23_Header_0_eq, loop_R23_Header_0]
    congr 1
    funext yi0_0
    exact loop_R23_Header_0_eq a0 si0_0 kn kx kr n yi0_0
theorem goodl_R23_Header_0 {R : Type} {rest} (h : GoodL (R := R) env_R23_Header 0 (loopAt Tryz.f35 0) rest) : GoodL (R := R) env_R23_Header 0 (loopAt Tryz.f35 0) (loopAlt shape_R23_Header_0 hook_R23_Header_0 rest) := by
  refine goodL_alt (fun l kn kx kr r h => ?_) h
  unfold hook_R23_Header_0 at h
  split at h
  · rename_i i0_0 a0_Area_X0 a0_Area_Y0 a0_Area_X1 a0_Area_Y1 a0_TileW a0_TileH a0_Components
    exact ⟨_, (loop_R23_Header_0_eq (SHeader.mk (SRect.mk a0_Area_X0 a0_Area_Y0 a0_Area_X1 a0_Area_Y1) a0_TileW a0_TileH a0_Components) i0_0 kn kx kr _ i0_0).symm.trans h⟩
  · cases h
theorem step_R23_Header_2_eq {R : Type} (a0 : SHeader) (si2_0 : Int) (kn : St → Option R) (kx : Nat → St → Option R) (kr : V → Option R) (n : Nat) (i2_0 : Int) :
    loopN env_R23_Header 2 (loopAt Tryz.f35 1) (st_R23_Header_2 a0 si2_0) kn kx kr (n + 1) (st_R23_Header_2 a0 i2_0) =
    step_R23_Header_2 a0 i2_0 (fun yi2_0 => loopN env_R23_Header 2 (loopAt Tryz.f35 1) (st_R23_Header_2 a0 si2_0) kn kx kr n (st_R23_Header_2 a0 yi2_0)) (fun yi2_0 => kn (st_R23_Header_2 a0 yi2_0)) kr := by kernel_rfl
theorem loop_R23_Header_2_eq {R : Type} (a0 : SHeader) (si2_0 : Int) (kn : St → Option R) (kx : Nat → St → Option R) (kr : V → Option R) : ∀ (n : Nat) (i2_0 : Int),
    loop_R23_Header_2 a0 n i2_0 (fun yi2_0 => kn (st_R23_Header_2 a0 yi2_0)) kr = loopN env_R23_Header 2 (loopAt Tryz.f35 1) (st_R23_Header_2 a0 si2_0) kn kx kr n (st_R23_Header_2 a0 i2_0)
  | 0, _ => rfl
  | n + 1, i2_0 => by
    rw [step_R23_Header_2_eq, loop_R23_Header_2]
    congr 1
    funext yi2_0
    exact loop_R23_Header_2_eq a0 si2_0 kn kx kr n yi2_0
theorem goodl_R23_Header_2 {R : Type} {rest} (h : GoodL (R := R) env_R23_Header 2 (loopAt Tryz.f35 1) rest) : GoodL (R := R) env_R23_Header 2 (loopAt Tryz.f35 1) (loopAlt shape_R23_Header_2 hook_R23_Header_2 rest) := by
  refine goodL_alt (fun l kn kx kr r h => ?_) h
  unfold hook_R23_Header_2 at h
  split at h
  · rename_i i2_0 a0_Area_X0 a0_Area_Y0 a0_Area_X1 a0_Area_Y1 a0_TileW a0_TileH a0_Components
    exact ⟨_, (loop_R23_Header_2_eq (SHeader.mk (SRect.mk a0_Area_X0 a0_Area_Y0 a0_Area_X1 a0_Area_Y1) a0_TileW a0_TileH a0_Components) i2_0 kn kx kr _ i2_0).symm.trans h⟩
  · cases h
theorem good_R23_Header_0 {R : Type} : GoodLoop (R := R) env_R23_Header 0 (loopAt Tryz.f35 0) := goodL_loop (g := loopAlt shape_R23_Header_0 hook_R23_Header_0 loopNil) (fun _ _ _ _ => rfl) (goodl_R23_Header_0 goodL_nil)
theorem good_R23_Header_2 {R : Type} : GoodLoop (R := R) env_R23_Header 2 (loopAt Tryz.f35 1) := goodL_loop (g := loopAlt shape_R23_Header_2 hook_R23_Header_2 loopNil) (fun _ _ _ _ => rfl) (goodl_R23_Header_2 goodL_nil)
noncomputable def spec_R23_Header {R : Type} (a0 : SHeader) (k : V → Option R) : Option R :=
 let c1 : Bool := (m_R01_Valid a0.Area)
 bif ((!c1) == false) then
 let c2 : Bool := (m_R01_Empty a0.Area)
 bif (c2 == false) then
 let c3 : Bool := (m_R23_in a0.TileW (1 : Int) (4096 : Int))
 bif ((!c3) == false) then
 let c4 : Bool := (m_R23_in a0.TileH (1 : Int) (4096 : Int))
 bif ((!c4) == false) then
 let x5 : Int := (((List.length a0.Components) : Nat) : Int)
 let c6 : Bool := (m_R23_in x5 (1 : Int) (4 : Int))
 bif (!c6) then
 k (V.int .i64 (12 : Int))
 else
 loop_R23_Header_0 a0 (fuel_R23_Header_0 (0 : Int) a0) (0 : Int) (fun i0_z16 =>
 let c17 : Int := (m_R23_tiles a0)
 let b18 : Bool := (decide (c17 > (1024 : Int)))
 bif b18 then
 k (V.int .i64 (5 : Int))
 else
 loop_R23_Header_2 a0 (fuel_R23_Header_2 (0 : Int) a0) (0 : Int) (fun i2_z26 =>
 k (V.int .i64 (0 : Int))) k) k
 else
 k (V.int .i64 (12 : Int))
 else
 k (V.int .i64 (12 : Int))
 else
 k (V.int .i64 (12 : Int))
 else
 k (V.int .i64 (12 : Int))
abbrev av_R23_Header (a0 : SHeader) : List V := [(SHeader.v a0)]
theorem spec_R23_Header_eq {R : Type} (a0 : SHeader) (k : V → Option R) : fnK env_R23_Header Tryz.f35 (av_R23_Header a0) k = spec_R23_Header a0 k := by kernel_rfl
theorem ok_R23_Header (h_R01_Valid : G_R01_Valid) (h_R01_Empty : G_R01_Empty) (h_R23_in : G_R23_in) (h_R01_Reduce : G_R01_Reduce) (h_R23_tiles : G_R23_tiles) (h_R01_Area : G_R01_Area) (a0 : SHeader) {v : V} (h : Real (av_R23_Header a0) → spec_R23_Header a0 some = some v) : FunOK Tryz.prog 35 (av_R23_Header a0) v :=
  fn_ok (fn := Tryz.f35) (c := bodyOf Tryz.f35) (E := env_R23_Header) ⟨by kernel_rfl, (goodCons h_R01_Valid (goodCons h_R01_Empty (goodCons h_R23_in (goodCons h_R01_Reduce (goodCons h_R23_tiles (goodCons h_R01_Area goodNil)))))), rfl, goodS_no⟩ rfl (by kernel_rfl) (by kernel_rfl) (by kernel_rfl)
  (loopsOK_of _ (by
    have e : loopsOf (bodyOf Tryz.f35) = [(0, loopAt Tryz.f35 0), (2, loopAt Tryz.f35 1)] := by kernel_rfl
    rw [e]
    simp only [List.forall_mem_cons, List.not_mem_nil, false_implies, implies_true, and_true]
    exact ⟨good_R23_Header_0, good_R23_Header_2⟩))
  (fun hr => (spec_R23_Header_eq a0 some).trans (h hr))
theorem mk_R23_Header (h_R01_Valid : G_R01_Valid) (h_R01_Empty : G_R01_Empty) (h_R23_in : G_R23_in) (h_R01_Reduce : G_R01_Reduce) (h_R23_tiles : G_R23_tiles) (h_R01_Area : G_R01_Area) (h : ∀ (a0 : SHeader), Real (av_R23_Header a0) → spec_R23_Header a0 some = some (V.int .i64 (m_R23_Header a0))) : G_R23_Header := goodHook1 fun l hp => by
  unfold hp_R23_Header at hp
  split at hp
  · rename_i x0 x1 x2 x3 x4 x5 x6
    exact ok_R23_Header h_R01_Valid h_R01_Empty h_R23_in h_R01_Reduce h_R23_tiles h_R01_Area (SHeader.mk (SRect.mk x0 x1 x2 x3) x4 x5 x6) fun hr => h (SHeader.mk (SRect.mk x0 x1 x2 x3) x4 x5 x6) hr
  · cases hp
end Go.Vm
