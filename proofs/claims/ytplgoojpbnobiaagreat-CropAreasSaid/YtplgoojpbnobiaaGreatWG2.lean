import Derived.Test.YtplgoojpbnobiaaGreatWC
set_option linter.unusedVariables false
set_option linter.unusedSimpArgs false
set_option maxRecDepth 100000
noncomputable section
namespace Go.Vm
open Go.Proofs
noncomputable def fuel_R01_Bound_0 (r0_0 : Rows) (i0_1 i0_2 i0_3 i0_4 i0_5 i0_6 i0_7 i0_8 i0_9 : Int) : Nat :=
 let x1 : Int := (((List.length r0_0) : Nat) : Int)
 Int.toNat (x1 - i0_1) + 1
noncomputable def step_R01_Bound_0 {R : Type} (r0_0 : Rows) (i0_2 i0_3 i0_4 i0_5 : Int) (i0_1 i0_6 i0_7 i0_8 i0_9 : Int) (again : Int → Int → Int → Int → Int → Option R) (kn : Int → Int → Int → Int → Int → Option R) : Option R :=
 let x1 : Int := (((List.length r0_0) : Nat) : Int)
 bif (decide (i0_1 < x1)) then
 bif (inR i0_1 (List.length r0_0)) then
 let w2 : List V := (List.getD r0_0 (Int.toNat i0_1) [])
 let s3 : SRect := (SRect.of w2)
 let c4 : Bool := (m_R01_Empty s3)
 bif c4 then
 let x5 : Int := (IntKind.wrap .i64 (i0_1 + (1 : Int)))
 again x5 i0_6 i0_7 i0_8 i0_9
 else
 let c6 : Bool := (m_R01_Empty (SRect.mk i0_6 i0_7 i0_8 i0_9))
 bif c6 then
 let x7 : Int := (bif (decide (s3.X0 < s3.X0)) then s3.X0 else s3.X0)
 let x8 : Int := (bif (decide (s3.Y0 < s3.Y0)) then s3.Y0 else s3.Y0)
 let x9 : Int := (bif (decide (s3.X1 > s3.X1)) then s3.X1 else s3.X1)
 let x10 : Int := (bif (decide (s3.Y1 > s3.Y1)) then s3.Y1 else s3.Y1)
 let x11 : Int := (IntKind.wrap .i64 (i0_1 + (1 : Int)))
 again x11 x7 x8 x9 x10
 else
 let x12 : Int := (bif (decide (s3.X0 < i0_6)) then s3.X0 else i0_6)
 let x13 : Int := (bif (decide (s3.Y0 < i0_7)) then s3.Y0 else i0_7)
 let x14 : Int := (bif (decide (s3.X1 > i0_8)) then s3.X1 else i0_8)
 let x15 : Int := (bif (decide (s3.Y1 > i0_9)) then s3.Y1 else i0_9)
 let x16 : Int := (IntKind.wrap .i64 (i0_1 + (1 : Int)))
 again x16 x12 x13 x14 x15
 else none
 else
 kn i0_1 i0_6 i0_7 i0_8 i0_9
noncomputable def loop_R01_Bound_0 {R : Type} (r0_0 : Rows) (i0_2 i0_3 i0_4 i0_5 : Int) : Nat → Int → Int → Int → Int → Int → (Int → Int → Int → Int → Int → Option R) → Option R
  | 0, _, _, _, _, _, _ => none
  | n + 1, i0_1, i0_6, i0_7, i0_8, i0_9, kn => step_R01_Bound_0 r0_0 i0_2 i0_3 i0_4 i0_5 i0_1 i0_6 i0_7 i0_8 i0_9 (fun yi0_1 yi0_6 yi0_7 yi0_8 yi0_9 => loop_R01_Bound_0 r0_0 i0_2 i0_3 i0_4 i0_5 n yi0_1 yi0_6 yi0_7 yi0_8 yi0_9 kn) kn
noncomputable def shape_R01_Bound_0 : ST := ⟨.data SRect.sh :: .undef :: .ptr 0 0 0 :: .ptr 2 0 0 :: .int .i64 :: unds 39 [], [(0, .var SRect.sh false SRect.ts), (2, .var SRect.sh false SRect.ts)], 5⟩
noncomputable def st_R01_Bound_0 (r0_0 : Rows) (i0_2 i0_3 i0_4 i0_5 : Int) (i0_1 i0_6 i0_7 i0_8 i0_9 : Int) : St := shape_R01_Bound_0.put [.r r0_0, .i i0_1, .i i0_2, .i i0_3, .i i0_4, .i i0_5, .i i0_6, .i i0_7, .i i0_8, .i i0_9]
noncomputable def hook_R01_Bound_0 {R : Type} : LoopG R := fun l kn _ _ => match l with
  | .r r0_0 :: .i i0_1 :: .i i0_2 :: .i i0_3 :: .i i0_4 :: .i i0_5 :: .i i0_6 :: .i i0_7 :: .i i0_8 :: .i i0_9 :: [] => loop_R01_Bound_0 r0_0 i0_2 i0_3 i0_4 i0_5 (fuel_R01_Bound_0 r0_0 i0_1 i0_2 i0_3 i0_4 i0_5 i0_6 i0_7 i0_8 i0_9) i0_1 i0_6 i0_7 i0_8 i0_9 (fun yi0_1 yi0_6 yi0_7 yi0_8 yi0_9 => kn (st_R01_Bound_0 r0_0 i0_2 i0_3 i0_4 i0_5 yi0_1 yi0_6 yi0_7 yi0_8 yi0_9))
  | _ => none
noncomputable def env_R01_Bound {R : Type} : Env R := ⟨Tryz.prog, callCons 29 c_R01_Empty callNil, fun id => bif Nat.beq id 0 then loopAlt shape_R01_Bound_0 hook_R01_Bound_0 loopNil else (fun _ _ _ _ _ => none) id, Tryz.f32.results.toList, maskTab 44 [(0, 0x5), (1, 0xd), (2, 0x1d), (3, 0x41d), (4, 0x1d), (5, 0x3d), (6, 0x4003d), (7, 0x10003d), (8, 0x3d), (9, 0x1d), (10, 0x4)], maskAt [(1, 5), (2, 1), (4, 4), (6, 9), (8, 47), (10, 13), (12, 19), (14, 21), (16, 23), (18, 25), (20, 50)], noSort⟩
theorem step_R01_Bound_0_eq {R : Type} (r0_0 : Rows) (i0_2 i0_3 i0_4 i0_5 : Int) (si0_1 si0_6 si0_7 si0_8 si0_9 : Int) (kn : St → Option R) (kx : Nat → St → Option R) (kr : V → Option R) (n : Nat) (i0_1 i0_6 i0_7 i0_8 i0_9 : Int) :
    loopN env_R01_Bound 0 (loopAt Tryz.f32 0) (st_R01_Bound_0 r0_0 i0_2 i0_3 i0_4 i0_5 si0_1 si0_6 si0_7 si0_8 si0_9) kn kx kr (n + 1) (st_R01_Bound_0 r0_0 i0_2 i0_3 i0_4 i0_5 i0_1 i0_6 i0_7 i0_8 i0_9) =
    step_R01_Bound_0 r0_0 i0_2 i0_3 i0_4 i0_5 i0_1 i0_6 i0_7 i0_8 i0_9 (fun yi0_1 yi0_6 yi0_7 yi0_8 yi0_9 => loopN env_R01_Bound 0 (loopAt Tryz.f32 0) (st_R01_Bound_0 r0_0 i0_2 i0_3 i0_4 i0_5 si0_1 si0_6 si0_7 si0_8 si0_9) kn kx kr n (st_R01_Bound_0 r0_0 i0_2 i0_3 i0_4 i0_5 yi0_1 yi0_6 yi0_7 yi0_8 yi0_9)) (fun yi0_1 yi0_6 yi0_7 yi0_8 yi0_9 => kn (st_R01_Bound_0 r0_0 i0_2 i0_3 i0_4 i0_5 yi0_1 yi0_6 yi0_7 yi0_8 yi0_9)) := by kernel_rfl
theorem loop_R01_Bound_0_eq {R : Type} (r0_0 : Rows) (i0_2 i0_3 i0_4 i0_5 : Int) (si0_1 si0_6 si0_7 si0_8 si0_9 : Int) (kn : St → Option R) (kx : Nat → St → Option R) (kr : V → Option R) : ∀ (n : Nat) (i0_1 i0_6 i0_7 i0_8 i0_9 : Int),
    loop_R01_Bound_0 r0_0 i0_2 i0_3 i0_4 i0_5 n i0_1 i0_6 i0_7 i0_8 i0_9 (fun yi0_1 yi0_6 yi0_7 yi0_8 yi0_9 => kn (st_R01_Bound_0 r0_0 i0_2 i0_3 i0_4 i0_5 yi0_1 yi0_6 yi0_7 yi0_8 yi0_9)) = loopN env_R01_Bound 0 (loopAt Tryz.f32 0) (st_R01_Bound_0 r0_0 i0_2 i0_3 i0_4 i0_5 si0_1 si0_6 si0_7 si0_8 si0_9) kn kx kr n (st_R01_Bound_0 r0_0 i0_2 i0_3 i0_4 i0_5 i0_1 i0_6 i0_7 i0_8 i0_9)
  | 0, _, _, _, _, _ => rfl
  | n + 1, i0_1, i0_6, i0_7, i0_8, i0_9 => by
    rw [step_R01_Bound_0_eq, loop_R01_Bound_0]
    congr 1
    funext yi0_1 yi0_6 yi0_7 yi0_8 yi0_9
    exact loop_R01_Bound_0_eq r0_0 i0_2 i0_3 i0_4 i0_5 si0_1 si0_6 si0_7 si0_8 si0_9 kn kx kr n yi0_1 yi0_6 yi0_7 yi0_8 yi0_9
theorem goodl_R01_Bound_0 {R : Type} {rest} (h : GoodL (R := R) env_R01_Bound 0 (loopAt Tryz.f32 0) rest) : GoodL (R := R) env_R01_Bound 0 (loopAt Tryz.f32 0) (loopAlt shape_R01_Bound_0 hook_R01_Bound_0 rest) := by
  refine goodL_alt (fun l kn kx kr r h => ?_) h
  unfold hook_R01_Bound_0 at h
  split at h
  · rename_i r0_0 i0_1 i0_2 i0_3 i0_4 i0_5 i0_6 i0_7 i0_8 i0_9
    exact ⟨_, (loop_R01_Bound_0_eq r0_0 i0_2 i0_3 i0_4 i0_5 i0_1 i0_6 i0_7 i0_8 i0_9 kn kx kr _ i0_1 i0_6 i0_7 i0_8 i0_9).symm.trans h⟩
  · cases h
theorem good_R01_Bound_0 {R : Type} : GoodLoop (R := R) env_R01_Bound 0 (loopAt Tryz.f32 0) := goodL_loop (g := loopAlt shape_R01_Bound_0 hook_R01_Bound_0 loopNil) (fun _ _ _ _ => rfl) (goodl_R01_Bound_0 goodL_nil)
noncomputable def spec_R01_Bound {R : Type} (a0 : Rows) (k : V → Option R) : Option R :=
 loop_R01_Bound_0 a0 (0 : Int) (0 : Int) (0 : Int) (0 : Int) (fuel_R01_Bound_0 a0 (0 : Int) (0 : Int) (0 : Int) (0 : Int) (0 : Int) (0 : Int) (0 : Int) (0 : Int) (0 : Int)) (0 : Int) (0 : Int) (0 : Int) (0 : Int) (0 : Int) (fun i0_z17 i0_z18 i0_z19 i0_z20 i0_z21 =>
 k (V.agg [(V.int .i64 i0_z18), (V.int .i64 i0_z19), (V.int .i64 i0_z20), (V.int .i64 i0_z21)]))
abbrev av_R01_Bound (a0 : Rows) : List V := [(V.data SRect.sh a0)]
theorem spec_R01_Bound_eq {R : Type} (a0 : Rows) (k : V → Option R) : fnK env_R01_Bound Tryz.f32 (av_R01_Bound a0) k = spec_R01_Bound a0 k := by kernel_rfl
theorem ok_R01_Bound (h_R01_Empty : G_R01_Empty) (a0 : Rows) {v : V} (h : Real (av_R01_Bound a0) → spec_R01_Bound a0 some = some v) : FunOK Tryz.prog 32 (av_R01_Bound a0) v :=
  fn_ok (fn := Tryz.f32) (c := bodyOf Tryz.f32) (E := env_R01_Bound) ⟨by kernel_rfl, (goodCons h_R01_Empty goodNil), rfl, goodS_no⟩ rfl (by kernel_rfl) (by kernel_rfl) (by kernel_rfl)
  (loopsOK_of _ (by
    have e : loopsOf (bodyOf Tryz.f32) = [(0, loopAt Tryz.f32 0)] := by kernel_rfl
    rw [e]
    simp only [List.forall_mem_cons, List.not_mem_nil, false_implies, implies_true, and_true]
    exact good_R01_Bound_0))
  (fun hr => (spec_R01_Bound_eq a0 some).trans (h hr))
theorem mk_R01_Bound (h_R01_Empty : G_R01_Empty) (h : ∀ (a0 : Rows), pre_R01_Bound a0 = true → Real (av_R01_Bound a0) → spec_R01_Bound a0 some = some (SRect.v (m_R01_Bound a0))) : G_R01_Bound := goodHook1 fun l hp => by
  unfold hp_R01_Bound at hp
  split at hp
  · rename_i x0
    exact ok_R01_Bound h_R01_Empty x0 fun hr => h x0 hp hr
  · cases hp
noncomputable def fuel_R44_Area_0 (r0_0 : Rows) (i0_1 : Int) (a1 : SRect) (i0_6 i0_7 i0_8 i0_9 : Int) (r0_10 : Rows) : Nat :=
 let x6 : Int := (((List.length r0_0) : Nat) : Int)
 Int.toNat (x6 - i0_1) + 1
noncomputable def step_R44_Area_0 {R : Type} (r0_0 : Rows) (a1 : SRect) (i0_6 i0_7 i0_8 i0_9 : Int) (i0_1 : Int) (r0_10 : Rows) (again : Int → Rows → Option R) (kn : Int → Rows → Option R) : Option R :=
 let x6 : Int := (((List.length r0_0) : Nat) : Int)
 bif (decide (i0_1 < x6)) then
 bif (inR i0_1 (List.length r0_0)) then
 let w7 : List V := (List.getD r0_0 (Int.toNat i0_1) [])
 let s8 : SRect := (SRect.of w7)
 let c9 : SRect := (m_R01_Intersect s8 a1)
 let c10 : Bool := (m_R01_Empty c9)
 bif (!c10) then
 bif (inR i0_1 (List.length r0_0)) then
 let w11 : List V := (List.getD r0_0 (Int.toNat i0_1) [])
 let s12 : SRect := (SRect.of w11)
 bif (roomOK ((List.length r0_10) + (1 : Nat)) 32) then
 let r13 : Rows := (r0_10 ++ [(SRect.row s12)])
 let x14 : Int := (IntKind.wrap .i64 (i0_1 + (1 : Int)))
 again x14 r13
 else none
 else none
 else
 let x15 : Int := (IntKind.wrap .i64 (i0_1 + (1 : Int)))
 again x15 r0_10
 else none
 else
 kn i0_1 r0_10
noncomputable def loop_R44_Area_0 {R : Type} (r0_0 : Rows) (a1 : SRect) (i0_6 i0_7 i0_8 i0_9 : Int) : Nat → Int → Rows → (Int → Rows → Option R) → Option R
  | 0, _, _, _ => none
  | n + 1, i0_1, r0_10, kn => step_R44_Area_0 r0_0 a1 i0_6 i0_7 i0_8 i0_9 i0_1 r0_10 (fun yi0_1 yr0_10 => loop_R44_Area_0 r0_0 a1 i0_6 i0_7 i0_8 i0_9 n yi0_1 yr0_10 kn) kn
noncomputable def shape_R44_Area_0 : ST := ⟨unds 3 (.ptr 1 0 0 :: .ptr 2 0 0 :: .undef :: .undef :: .vs 31 :: .data SRect.sh :: .int .i64 :: unds 42 []), [(1, .var SRect.sh false SRect.ts), (2, .var SRect.sh false SRect.ts), (31, .vec SRect.sh false)], 32⟩
noncomputable def st_R44_Area_0 (r0_0 : Rows) (a1 : SRect) (i0_6 i0_7 i0_8 i0_9 : Int) (i0_1 : Int) (r0_10 : Rows) : St := shape_R44_Area_0.put [.r r0_0, .i i0_1, .i a1.X0, .i a1.Y0, .i a1.X1, .i a1.Y1, .i i0_6, .i i0_7, .i i0_8, .i i0_9, .r r0_10]
noncomputable def hook_R44_Area_0 {R : Type} : LoopG R := fun l kn _ _ => match l with
  | .r r0_0 :: .i i0_1 :: .i a1_X0 :: .i a1_Y0 :: .i a1_X1 :: .i a1_Y1 :: .i i0_6 :: .i i0_7 :: .i i0_8 :: .i i0_9 :: .r r0_10 :: [] => loop_R44_Area_0 r0_0 (SRect.mk a1_X0 a1_Y0 a1_X1 a1_Y1) i0_6 i0_7 i0_8 i0_9 (fuel_R44_Area_0 r0_0 i0_1 (SRect.mk a1_X0 a1_Y0 a1_X1 a1_Y1) i0_6 i0_7 i0_8 i0_9 r0_10) i0_1 r0_10 (fun yi0_1 yr0_10 => kn (st_R44_Area_0 r0_0 (SRect.mk a1_X0 a1_Y0 a1_X1 a1_Y1) i0_6 i0_7 i0_8 i0_9 yi0_1 yr0_10))
  | _ => none
noncomputable def env_R44_Area {R : Type} : Env R := ⟨Tryz.prog, callCons 17 c_R23_Header (callCons 28 c_R01_Valid (callCons 29 c_R01_Empty (callCons 30 c_R01_Intersect (callCons 31 c_R24_Tiles (callCons 32 c_R01_Bound callNil))))), fun id => bif Nat.beq id 0 then loopAlt shape_R44_Area_0 hook_R44_Area_0 loopNil else (fun _ _ _ _ _ => none) id, Tryz.f11.results.toList, maskTab 52 [(0, 0x1f0001c), (1, 0x1f0005c), (2, 0x1f0205c), (3, 0x30), (4, 0x200001c), (5, 0x30), (6, 0x9c), (7, 0x198), (8, 0x398), (9, 0x100000398), (10, 0x398), (11, 0x40000000398), (12, 0x398), (13, 0x30)], maskAt [(1, 31), (2, 4), (4, 7), (6, 9), (8, 13), (10, 23), (12, 26), (14, 27), (16, 30), (18, 35), (20, 55), (22, 39), (24, 47), (26, 58)], noSort⟩
theorem step_R44_Area_0_eq {R : Type} (r0_0 : Rows) (a1 : SRect) (i0_6 i0_7 i0_8 i0_9 : Int) (si0_1 : Int) (sr0_10 : Rows) (kn : St → Option R) (kx : Nat → St → Option R) (kr : V → Option R) (n : Nat) (i0_1 : Int) (r0_10 : Rows) :
    loopN env_R44_Area 0 (loopAt Tryz.f11 0) (st_R44_Area_0 r0_0 a1 i0_6 i0_7 i0_8 i0_9 si0_1 sr0_10) kn kx kr (n + 1) (st_R44_Area_0 r0_0 a1 i0_6 i0_7 i0_8 i0_9 i0_1 r0_10) =
    step_R44_Area_0 r0_0 a1 i0_6 i0_7 i0_8 i0_9 i0_1 r0_10 (fun yi0_1 yr0_10 => loopN env_R44_Area 0 (loopAt Tryz.f11 0) (st_R44_Area_0 r0_0 a1 i0_6 i0_7 i0_8 i0_9 si0_1 sr0_10) kn kx kr n (st_R44_Area_0 r0_0 a1 i0_6 i0_7 i0_8 i0_9 yi0_1 yr0_10)) (fun yi0_1 yr0_10 => kn (st_R44_Area_0 r0_0 a1 i0_6 i0_7 i0_8 i0_9 yi0_1 yr0_10)) := by kernel_rfl
theorem loop_R44_Area_0_eq {R : Type} (r0_0 : Rows) (a1 : SRect) (i0_6 i0_7 i0_8 i0_9 : Int) (si0_1 : Int) (sr0_10 : Rows) (kn : St → Option R) (kx : Nat → St → Option R) (kr : V → Option R) : ∀ (n : Nat) (i0_1 : Int) (r0_10 : Rows),
    loop_R44_Area_0 r0_0 a1 i0_6 i0_7 i0_8 i0_9 n i0_1 r0_10 (fun yi0_1 yr0_10 => kn (st_R44_Area_0 r0_0 a1 i0_6 i0_7 i0_8 i0_9 yi0_1 yr0_10)) = loopN env_R44_Area 0 (loopAt Tryz.f11 0) (st_R44_Area_0 r0_0 a1 i0_6 i0_7 i0_8 i0_9 si0_1 sr0_10) kn kx kr n (st_R44_Area_0 r0_0 a1 i0_6 i0_7 i0_8 i0_9 i0_1 r0_10)
  | 0, _, _ => rfl
  | n + 1, i0_1, r0_10 => by
    rw [step_R44_Area_0_eq, loop_R44_Area_0]
    congr 1
    funext yi0_1 yr0_10
    exact loop_R44_Area_0_eq r0_0 a1 i0_6 i0_7 i0_8 i0_9 si0_1 sr0_10 kn kx kr n yi0_1 yr0_10
theorem goodl_R44_Area_0 {R : Type} {rest} (h : GoodL (R := R) env_R44_Area 0 (loopAt Tryz.f11 0) rest) : GoodL (R := R) env_R44_Area 0 (loopAt Tryz.f11 0) (loopAlt shape_R44_Area_0 hook_R44_Area_0 rest) := by
  refine goodL_alt (fun l kn kx kr r h => ?_) h
  unfold hook_R44_Area_0 at h
  split at h
  · rename_i r0_0 i0_1 a1_X0 a1_Y0 a1_X1 a1_Y1 i0_6 i0_7 i0_8 i0_9 r0_10
    exact ⟨_, (loop_R44_Area_0_eq r0_0 (SRect.mk a1_X0 a1_Y0 a1_X1 a1_Y1) i0_6 i0_7 i0_8 i0_9 i0_1 r0_10 kn kx kr _ i0_1 r0_10).symm.trans h⟩
  · cases h
theorem good_R44_Area_0 {R : Type} : GoodLoop (R := R) env_R44_Area 0 (loopAt Tryz.f11 0) := goodL_loop (g := loopAlt shape_R44_Area_0 hook_R44_Area_0 loopNil) (fun _ _ _ _ => rfl) (goodl_R44_Area_0 goodL_nil)
noncomputable def spec_R44_Area {R : Type} (a0 : SHeader) (a1 : SRect) (k : V → Option R) : Option R :=
 let c1 : Int := (m_R23_Header a0)
 bif (c1 != (0 : Int)) then
 k (V.tup [(V.agg [(V.int .i64 (0 : Int)), (V.int .i64 (0 : Int)), (V.int .i64 (0 : Int)), (V.int .i64 (0 : Int))]), (V.int .i64 c1)])
 else
 let c2 : Bool := (m_R01_Valid a1)
 bif ((!c2) == false) then
 let c3 : SRect := (m_R01_Intersect a0.Area a1)
 let c4 : Bool := (m_R01_Empty c3)
 bif c4 then
 k (V.tup [(V.agg [(V.int .i64 (0 : Int)), (V.int .i64 (0 : Int)), (V.int .i64 (0 : Int)), (V.int .i64 (0 : Int))]), (V.int .i64 (2 : Int))])
 else
 let c5 : Rows := (m_R24_Tiles a0)
 loop_R44_Area_0 c5 a1 (0 : Int) (0 : Int) (0 : Int) (0 : Int) (fuel_R44_Area_0 c5 (0 : Int) a1 (0 : Int) (0 : Int) (0 : Int) (0 : Int) []) (0 : Int) [] (fun i0_z16 r0_z17 =>
 bif (pre_R01_Bound r0_z17) then
 let c18 : SRect := (m_R01_Bound r0_z17)
 k (V.tup [(SRect.v c18), (V.int .i64 (0 : Int))])
 else none)
 else
 k (V.tup [(V.agg [(V.int .i64 (0 : Int)), (V.int .i64 (0 : Int)), (V.int .i64 (0 : Int)), (V.int .i64 (0 : Int))]), (V.int .i64 (2 : Int))])
abbrev av_R44_Area (a0 : SHeader) (a1 : SRect) : List V := [(SHeader.v a0), (SRect.v a1)]
theorem spec_R44_Area_eq {R : Type} (a0 : SHeader) (a1 : SRect) (k : V → Option R) : fnK env_R44_Area Tryz.f11 (av_R44_Area a0 a1) k = spec_R44_Area a0 a1 k := by kernel_rfl
theorem ok_R44_Area (h_R23_Header : G_R23_Header) (h_R01_Valid : G_R01_Valid) (h_R01_Empty : G_R01_Empty) (h_R01_Intersect : G_R01_Intersect) (h_R24_Tiles : G_R24_Tiles) (h_R01_Bound : G_R01_Bound) (a0 : SHeader) (a1 : SRect) {v : V} (h : Real (av_R44_Area a0 a1) → spec_R44_Area a0 a1 some = some v) : FunOK Tryz.prog 11 (av_R44_Area a0 a1) v :=
  fn_ok (fn := Tryz.f11) (c := bodyOf Tryz.f11) (E := env_R44_Area) ⟨by kernel_rfl, (goodCons h_R23_Header (goodCons h_R01_Valid (goodCons h_R01_Empty (goodCons h_R01_Intersect (goodCons h_R24_Tiles (goodCons h_R01_Bound goodNil)))))), rfl, goodS_no⟩ rfl (by kernel_rfl) (by kernel_rfl) (by kernel_rfl)
  (loopsOK_of _ (by
    have e : loopsOf (bodyOf Tryz.f11) = [(0, loopAt Tryz.f11 0)] := by kernel_rfl
    rw [e]
    simp only [List.forall_mem_cons, List.not_mem_nil, false_implies, implies_true, and_true]
    exact good_R44_Area_0))
  (fun hr => (spec_R44_Area_eq a0 a1 some).trans (h hr))
theorem mk_R44_Area (h_R23_Header : G_R23_Header) (h_R01_Valid : G_R01_Valid) (h_R01_Empty : G_R01_Empty) (h_R01_Intersect : G_R01_Intersect) (h_R24_Tiles : G_R24_Tiles) (h_R01_Bound : G_R01_Bound) (h : ∀ (a0 : SHeader) (a1 : SRect), Real (av_R44_Area a0 a1) → spec_R44_Area a0 a1 some = some (V.tup [(SRect.v (m_R44_Area a0 a1).1), (V.int .i64 (m_R44_Area a0 a1).2)])) : G_R44_Area := goodHook1 fun l hp => by
  unfold hp_R44_Area at hp
  split at hp
  · rename_i x0 x1 x2 x3 x4 x5 x6 x7 x8 x9 x10
    exact ok_R44_Area h_R23_Header h_R01_Valid h_R01_Empty h_R01_Intersect h_R24_Tiles h_R01_Bound (SHeader.mk (SRect.mk x0 x1 x2 x3) x4 x5 x6) (SRect.mk x7 x8 x9 x10) fun hr => h (SHeader.mk (SRect.mk x0 x1 x2 x3) x4 x5 x6) (SRect.mk x7 x8 x9 x10) hr
  · cases hp
noncomputable def env_L44_CropAreas {R : Type} : Env R := ⟨Tryz.prog, callCons 9 c_L44_exampleHolds (callCons 10 c_crop_Area (callCons 11 c_R44_Area callNil)), fun _ _ _ _ _ => none, Tryz.f4.results.toList, maskTab 37 [(0, 0x9c000000c), (1, 0x9c000100c), (2, 0x10), (3, 0x9c000006c), (4, 0x9c00001e0), (5, 0x10)], maskAt [(2, 3), (4, 7), (6, 9), (8, 18), (10, 27)], noSort⟩
noncomputable def spec_L44_CropAreas {R : Type} (a0 : SHeader) (a1 : SRect) (k : V → Option R) : Option R :=
 let x1 : Int := (((List.length a0.Components) : Nat) : Int)
 let b2 : Bool := (decide (x1 > (20 : Int)))
 bif b2 then
 let c3 : Bool := m_L44_exampleHolds
 k (V.bool c3)
 else
 bif (pre_crop_Area a0 a1) then
 let c4 : SRect × Int := (m_crop_Area a0 a1)
 let c5 : SRect × Int := (m_R44_Area a0 a1)
 let b6 : Bool := ((c4.1.X0 == c5.1.X0) && ((c4.1.Y0 == c5.1.Y0) && ((c4.1.X1 == c5.1.X1) && ((c4.1.Y1 == c5.1.Y1) && true))))
 let b7 : Bool := (bif b6 then (c4.2 == c5.2) else false)
 bif (b7 == true) then
 let c8 : Bool := m_L44_exampleHolds
 k (V.bool c8)
 else
 k (V.bool false)
 else none
abbrev av_L44_CropAreas (a0 : SHeader) (a1 : SRect) : List V := [(SHeader.v a0), (SRect.v a1)]
theorem spec_L44_CropAreas_eq {R : Type} (a0 : SHeader) (a1 : SRect) (k : V → Option R) : fnK env_L44_CropAreas Tryz.f4 (av_L44_CropAreas a0 a1) k = spec_L44_CropAreas a0 a1 k := by kernel_rfl
theorem ok_L44_CropAreas (h_L44_exampleHolds : G_L44_exampleHolds) (h_crop_Area : G_crop_Area) (h_R44_Area : G_R44_Area) (a0 : SHeader) (a1 : SRect) {v : V} (h : Real (av_L44_CropAreas a0 a1) → spec_L44_CropAreas a0 a1 some = some v) : FunOK Tryz.prog 4 (av_L44_CropAreas a0 a1) v :=
  fn_ok (fn := Tryz.f4) (c := bodyOf Tryz.f4) (E := env_L44_CropAreas) ⟨by kernel_rfl, (goodCons h_L44_exampleHolds (goodCons h_crop_Area (goodCons h_R44_Area goodNil))), rfl, goodS_no⟩ rfl (by kernel_rfl) (by kernel_rfl) (by kernel_rfl)
  (loopsOK_of _ (by
    have e : loopsOf (bodyOf Tryz.f4) = [] := by kernel_rfl
    rw [e]
    intro p hp; cases hp))
  (fun hr => (spec_L44_CropAreas_eq a0 a1 some).trans (h hr))
theorem mk_L44_CropAreas (h_L44_exampleHolds : G_L44_exampleHolds) (h_crop_Area : G_crop_Area) (h_R44_Area : G_R44_Area) (h : ∀ (a0 : SHeader) (a1 : SRect), Real (av_L44_CropAreas a0 a1) → spec_L44_CropAreas a0 a1 some = some (V.bool (m_L44_CropAreas a0 a1))) : G_L44_CropAreas := goodHook1 fun l hp => by
  unfold hp_L44_CropAreas at hp
  split at hp
  · rename_i x0 x1 x2 x3 x4 x5 x6 x7 x8 x9 x10
    exact ok_L44_CropAreas h_L44_exampleHolds h_crop_Area h_R44_Area (SHeader.mk (SRect.mk x0 x1 x2 x3) x4 x5 x6) (SRect.mk x7 x8 x9 x10) fun hr => h (SHeader.mk (SRect.mk x0 x1 x2 x3) x4 x5 x6) (SRect.mk x7 x8 x9 x10) hr
  · cases hp
end Go.Vm
