import Derived.Test.YtoldachfmeghkaaGreatWC
set_option linter.unusedVariables false
set_option linter.unusedSimpArgs false
set_option maxRecDepth 100000
noncomputable section
namespace Go.Vm
open Go.Proofs
noncomputable def fuel_R06_Resolution_0 (i0_0 i0_1 i0_2 : Int) (a0 : SRect) (i0_7 i0_8 i0_9 i0_10 : Int) : Nat :=
 Int.toNat (i0_0 - i0_2) + 1
noncomputable def step_R06_Resolution_0 {R : Type} (i0_0 : Int) (a0 : SRect) (i0_7 i0_8 i0_9 i0_10 : Int) (i0_1 i0_2 : Int) (again : Int → Int → Option R) (kn : Int → Int → Option R) : Option R :=
 bif (decide (i0_2 < i0_0)) then
 let x5 : Int := (IntKind.wrap .i64 ((2 : Int) * i0_1))
 let x6 : Int := (IntKind.wrap .i64 (i0_2 + (1 : Int)))
 again x5 x6
 else
 kn i0_1 i0_2
noncomputable def loop_R06_Resolution_0 {R : Type} (i0_0 : Int) (a0 : SRect) (i0_7 i0_8 i0_9 i0_10 : Int) : Nat → Int → Int → (Int → Int → Option R) → Option R
  | 0, _, _, _ => none
  | n + 1, i0_1, i0_2, kn => step_R06_Resolution_0 i0_0 a0 i0_7 i0_8 i0_9 i0_10 i0_1 i0_2 (fun yi0_1 yi0_2 => loop_R06_Resolution_0 i0_0 a0 i0_7 i0_8 i0_9 i0_10 n yi0_1 yi0_2 kn) kn
noncomputable def shape_R06_Resolution_0 : ST := ⟨.undef :: .int .i64 :: .undef :: .ptr 0 0 0 :: .undef :: .undef :: .ptr 1 0 0 :: .int .i64 :: .int .i64 :: unds 25 [], [(0, .var SRect.sh false SRect.ts), (1, .var SRect.sh false SRect.ts)], 19⟩
noncomputable def st_R06_Resolution_0 (i0_0 : Int) (a0 : SRect) (i0_7 i0_8 i0_9 i0_10 : Int) (i0_1 i0_2 : Int) : St := shape_R06_Resolution_0.put [.i i0_0, .i i0_1, .i i0_2, .i a0.X0, .i a0.Y0, .i a0.X1, .i a0.Y1, .i i0_7, .i i0_8, .i i0_9, .i i0_10]
noncomputable def hook_R06_Resolution_0 {R : Type} : LoopG R := fun l kn _ _ => match l with
  | .i i0_0 :: .i i0_1 :: .i i0_2 :: .i a0_X0 :: .i a0_Y0 :: .i a0_X1 :: .i a0_Y1 :: .i i0_7 :: .i i0_8 :: .i i0_9 :: .i i0_10 :: [] => loop_R06_Resolution_0 i0_0 (SRect.mk a0_X0 a0_Y0 a0_X1 a0_Y1) i0_7 i0_8 i0_9 i0_10 (fuel_R06_Resolution_0 i0_0 i0_1 i0_2 (SRect.mk a0_X0 a0_Y0 a0_X1 a0_Y1) i0_7 i0_8 i0_9 i0_10) i0_1 i0_2 (fun yi0_1 yi0_2 => kn (st_R06_Resolution_0 i0_0 (SRect.mk a0_X0 a0_Y0 a0_X1 a0_Y1) i0_7 i0_8 i0_9 i0_10 yi0_1 yi0_2))
  | _ => none
noncomputable def env_R06_Resolution {R : Type} : Env R := ⟨Tryz.prog, callCons 66 c_R01_Reduce (callCons 151 c_R06_Count callNil), fun id => bif Nat.beq id 0 then loopAlt shape_R06_Resolution_0 hook_R06_Resolution_0 loopNil else (fun _ _ _ _ _ => none) id, Tryz.f115.results.toList, maskTab 34 [(0, 0xe604e), (1, 0x10004e), (2, 0x40), (3, 0xce), (4, 0x1ca), (5, 0x20001ca), (6, 0x1ca), (7, 0x1ca), (8, 0x40)], maskAt [(1, 19), (2, 2), (4, 14), (6, 16), (8, 17), (10, 23), (12, 29), (14, 26), (16, 32)], noSort⟩
theorem step_R06_Resolution_0_eq {R : Type} (i0_0 : Int) (a0 : SRect) (i0_7 i0_8 i0_9 i0_10 : Int) (si0_1 si0_2 : Int) (kn : St → Option R) (kx : Nat → St → Option R) (kr : V → Option R) (n : Nat) (i0_1 i0_2 : Int) :
    loopN env_R06_Resolution 0 (loopAt Tryz.f115 0) (st_R06_Resolution_0 i0_0 a0 i0_7 i0_8 i0_9 i0_10 si0_1 si0_2) kn kx kr (n + 1) (st_R06_Resolution_0 i0_0 a0 i0_7 i0_8 i0_9 i0_10 i0_1 i0_2) =
    step_R06_Resolution_0 i0_0 a0 i0_7 i0_8 i0_9 i0_10 i0_1 i0_2 (fun yi0_1 yi0_2 => loopN env_R06_Resolution 0 (loopAt Tryz.f115 0) (st_R06_Resolution_0 i0_0 a0 i0_7 i0_8 i0_9 i0_10 si0_1 si0_2) kn kx kr n (st_R06_Resolution_0 i0_0 a0 i0_7 i0_8 i0_9 i0_10 yi0_1 yi0_2)) (fun yi0_1 yi0_2 => kn (st_R06_Resolution_0 i0_0 a0 i0_7 i0_8 i0_9 i0_10 yi0_1 yi0_2)) := by kernel_rfl
theorem loop_R06_Resolution_0_eq {R : Type} (i0_0 : Int) (a0 : SRect) (i0_7 i0_8 i0_9 i0_10 : Int) (si0_1 si0_2 : Int) (kn : St → Option R) (kx : Nat → St → Option R) (kr : V → Option R) : ∀ (n : Nat) (i0_1 i0_2 : Int),
    loop_R06_Resolution_0 i0_0 a0 i0_7 i0_8 i0_9 i0_10 n i0_1 i0_2 (fun yi0_1 yi0_2 => kn (st_R06_Resolution_0 i0_0 a0 i0_7 i0_8 i0_9 i0_10 yi0_1 yi0_2)) = loopN env_R06_Resolution 0 (loopAt Tryz.f115 0) (st_R06_Resolution_0 i0_0 a0 i0_7 i0_8 i0_9 i0_10 si0_1 si0_2) kn kx kr n (st_R06_Resolution_0 i0_0 a0 i0_7 i0_8 i0_9 i0_10 i0_1 i0_2)
  | 0, _, _ => rfl
  | n + 1, i0_1, i0_2 => by
    rw [step_R06_Resolution_0_eq, loop_R06_Resolution_0]
    congr 1
    funext yi0_1 yi0_2
    exact loop_R06_Resolution_0_eq i0_0 a0 i0_7 i0_8 i0_9 i0_10 si0_1 si0_2 kn kx kr n yi0_1 yi0_2
theorem goodl_R06_Resolution_0 {R : Type} {rest} (h : GoodL (R := R) env_R06_Resolution 0 (loopAt Tryz.f115 0) rest) : GoodL (R := R) env_R06_Resolution 0 (loopAt Tryz.f115 0) (loopAlt shape_R06_Resolution_0 hook_R06_Resolution_0 rest) := by
  refine goodL_alt (fun l kn kx kr r h => ?_) h
  unfold hook_R06_Resolution_0 at h
  split at h
  · rename_i i0_0 i0_1 i0_2 a0_X0 a0_Y0 a0_X1 a0_Y1 i0_7 i0_8 i0_9 i0_10
    exact ⟨_, (loop_R06_Resolution_0_eq i0_0 (SRect.mk a0_X0 a0_Y0 a0_X1 a0_Y1) i0_7 i0_8 i0_9 i0_10 i0_1 i0_2 kn kx kr _ i0_1 i0_2).symm.trans h⟩
  · cases h
theorem good_R06_Resolution_0 {R : Type} : GoodLoop (R := R) env_R06_Resolution 0 (loopAt Tryz.f115 0) := goodL_loop (g := loopAlt shape_R06_Resolution_0 hook_R06_Resolution_0 loopNil) (fun _ _ _ _ => rfl) (goodl_R06_Resolution_0 goodL_nil)
noncomputable def spec_R06_Resolution {R : Type} (a0 : SRect) (a1 a2 : Int) (k : V → Option R) : Option R :=
 let c1 : Int := (m_R06_Count a1)
 let b2 : Bool := (decide (a2 < (0 : Int)))
 let b3 : Bool := (bif (c1 == (0 : Int)) then true else b2)
 let b4 : Bool := (bif b3 then true else (decide (a2 > a1)))
 bif b4 then
 k (V.agg [(V.int .i64 (0 : Int)), (V.int .i64 (0 : Int)), (V.int .i64 (0 : Int)), (V.int .i64 (0 : Int))])
 else
 loop_R06_Resolution_0 a1 a0 (0 : Int) (0 : Int) (0 : Int) (0 : Int) (fuel_R06_Resolution_0 a1 (1 : Int) a2 a0 (0 : Int) (0 : Int) (0 : Int) (0 : Int)) (1 : Int) a2 (fun i0_z7 i0_z8 =>
 let c9 : SRect := (m_R01_Reduce a0 i0_z7 i0_z7)
 k (SRect.v c9))
abbrev av_R06_Resolution (a0 : SRect) (a1 a2 : Int) : List V := [(SRect.v a0), (V.int .i64 a1), (V.int .i64 a2)]
theorem spec_R06_Resolution_eq {R : Type} (a0 : SRect) (a1 a2 : Int) (k : V → Option R) : fnK env_R06_Resolution Tryz.f115 (av_R06_Resolution a0 a1 a2) k = spec_R06_Resolution a0 a1 a2 k := by kernel_rfl
theorem ok_R06_Resolution (h_R01_Reduce : G_R01_Reduce) (h_R06_Count : G_R06_Count) (a0 : SRect) (a1 a2 : Int) {v : V} (h : Real (av_R06_Resolution a0 a1 a2) → spec_R06_Resolution a0 a1 a2 some = some v) : FunOK Tryz.prog 115 (av_R06_Resolution a0 a1 a2) v :=
  fn_ok (fn := Tryz.f115) (c := bodyOf Tryz.f115) (E := env_R06_Resolution) ⟨by kernel_rfl, (goodCons h_R01_Reduce (goodCons h_R06_Count goodNil)), rfl, goodS_no⟩ rfl (by kernel_rfl) (by kernel_rfl) (by kernel_rfl)
  (loopsOK_of _ (by
    have e : loopsOf (bodyOf Tryz.f115) = [(0, loopAt Tryz.f115 0)] := by kernel_rfl
    rw [e]
    simp only [List.forall_mem_cons, List.not_mem_nil, false_implies, implies_true, and_true]
    exact good_R06_Resolution_0))
  (fun hr => (spec_R06_Resolution_eq a0 a1 a2 some).trans (h hr))
theorem mk_R06_Resolution (h_R01_Reduce : G_R01_Reduce) (h_R06_Count : G_R06_Count) (h : ∀ (a0 : SRect) (a1 a2 : Int), Real (av_R06_Resolution a0 a1 a2) → spec_R06_Resolution a0 a1 a2 some = some (SRect.v (m_R06_Resolution a0 a1 a2))) : G_R06_Resolution := goodHook1 fun l hp => by
  unfold hp_R06_Resolution at hp
  split at hp
  · rename_i x0 x1 x2 x3 x4 x5
    exact ok_R06_Resolution h_R01_Reduce h_R06_Count (SRect.mk x0 x1 x2 x3) x4 x5 fun hr => h (SRect.mk x0 x1 x2 x3) x4 x5 hr
  · cases hp
noncomputable def fuel_R23_Packets_2 (i2_0 i2_1 i2_2 : Int) (a0 : SHeader) (a1 : SParams) (a2 gc6 : SRect) : Nat :=
 let b7 : Bool := (decide (i2_2 ≤ a1.Levels))
 Int.toNat (a1.Levels - i2_2) + 2
noncomputable def step_R23_Packets_2 {R : Type} (i2_1 : Int) (a0 : SHeader) (a1 : SParams) (a2 gc6 : SRect) (i2_0 i2_2 : Int) (again : Int → Int → Option R) (kn : Int → Int → Option R) : Option R :=
 let b7 : Bool := (decide (i2_2 ≤ a1.Levels))
 bif b7 then
 let c8 : SPoint := (m_R23_Precinct a1 i2_2)
 let c9 : SRect := (m_R06_Resolution gc6 a1.Levels i2_2)
 bif (pre_R23_Grid c9 c8.X c8.Y) then
 let c10 : Int := (m_R23_Grid c9 c8.X c8.Y)
 let x11 : Int := (IntKind.wrap .i64 (i2_0 + c10))
 let x12 : Int := (IntKind.wrap .i64 (i2_2 + (1 : Int)))
 again x11 x12
 else none
 else
 kn i2_0 i2_2
noncomputable def loop_R23_Packets_2 {R : Type} (i2_1 : Int) (a0 : SHeader) (a1 : SParams) (a2 gc6 : SRect) : Nat → Int → Int → (Int → Int → Option R) → Option R
  | 0, _, _, _ => none
  | n + 1, i2_0, i2_2, kn => step_R23_Packets_2 i2_1 a0 a1 a2 gc6 i2_0 i2_2 (fun yi2_0 yi2_2 => loop_R23_Packets_2 i2_1 a0 a1 a2 gc6 n yi2_0 yi2_2 kn) kn
noncomputable def shape_R23_Packets_2 : ST := ⟨unds 3 (.ptr 0 0 0 :: .ptr 1 0 0 :: .ptr 2 0 0 :: .undef :: .int .i64 :: .int .i64 :: .ptr 29 0 0 :: .int .i64 :: unds 47 []), [(0, .var SHeader.sh false SHeader.ts), (1, .var SParams.sh false SParams.ts), (2, .var SRect.sh false SRect.ts), (29, .var SRect.sh false SRect.ts)], 32⟩
noncomputable def st_R23_Packets_2 (i2_1 : Int) (a0 : SHeader) (a1 : SParams) (a2 gc6 : SRect) (i2_0 i2_2 : Int) : St := shape_R23_Packets_2.put [.i i2_0, .i i2_1, .i i2_2, .i a0.Area.X0, .i a0.Area.Y0, .i a0.Area.X1, .i a0.Area.Y1, .i a0.TileW, .i a0.TileH, .r a0.Components, .i a1.Kernel, .i a1.Levels, .i a1.Color, .i a1.BlockX, .i a1.BlockY, .r a1.Precincts, .i a1.Order, .i a1.Layers, .b a1.Mode.Bypass, .b a1.Mode.Restart, .b a1.Mode.Reset, .b a1.Mode.Causal, .b a1.Mode.Symbols, .b a1.Divide, .b a1.Sync, .b a1.Fence, .r a1.Steps, .i a1.Dead, .i a1.Shift, .i a2.X0, .i a2.Y0, .i a2.X1, .i a2.Y1, .i gc6.X0, .i gc6.Y0, .i gc6.X1, .i gc6.Y1]
noncomputable def hook_R23_Packets_2 {R : Type} : LoopG R := fun l kn _ _ => match l with
  | .i i2_0 :: .i i2_1 :: .i i2_2 :: .i a0_Area_X0 :: .i a0_Area_Y0 :: .i a0_Area_X1 :: .i a0_Area_Y1 :: .i a0_TileW :: .i a0_TileH :: .r a0_Components :: .i a1_Kernel :: .i a1_Levels :: .i a1_Color :: .i a1_BlockX :: .i a1_BlockY :: .r a1_Precincts :: .i a1_Order :: .i a1_Layers :: .b a1_Mode_Bypass :: .b a1_Mode_Restart :: .b a1_Mode_Reset :: .b a1_Mode_Causal :: .b a1_Mode_Symbols :: .b a1_Divide :: .b a1_Sync :: .b a1_Fence :: .r a1_Steps :: .i a1_Dead :: .i a1_Shift :: .i a2_X0 :: .i a2_Y0 :: .i a2_X1 :: .i a2_Y1 :: .i gc6_X0 :: .i gc6_Y0 :: .i gc6_X1 :: .i gc6_Y1 :: [] => loop_R23_Packets_2 i2_1 (SHeader.mk (SRect.mk a0_Area_X0 a0_Area_Y0 a0_Area_X1 a0_Area_Y1) a0_TileW a0_TileH a0_Components) (SParams.mk a1_Kernel a1_Levels a1_Color a1_BlockX a1_BlockY a1_Precincts a1_Order a1_Layers (SMode.mk a1_Mode_Bypass a1_Mode_Restart a1_Mode_Reset a1_Mode_Causal a1_Mode_Symbols) a1_Divide a1_Sync a1_Fence a1_Steps a1_Dead a1_Shift) (SRect.mk a2_X0 a2_Y0 a2_X1 a2_Y1) (SRect.mk gc6_X0 gc6_Y0 gc6_X1 gc6_Y1) (fuel_R23_Packets_2 i2_0 i2_1 i2_2 (SHeader.mk (SRect.mk a0_Area_X0 a0_Area_Y0 a0_Area_X1 a0_Area_Y1) a0_TileW a0_TileH a0_Components) (SParams.mk a1_Kernel a1_Levels a1_Color a1_BlockX a1_BlockY a1_Precincts a1_Order a1_Layers (SMode.mk a1_Mode_Bypass a1_Mode_Restart a1_Mode_Reset a1_Mode_Causal a1_Mode_Symbols) a1_Divide a1_Sync a1_Fence a1_Steps a1_Dead a1_Shift) (SRect.mk a2_X0 a2_Y0 a2_X1 a2_Y1) (SRect.mk gc6_X0 gc6_Y0 gc6_X1 gc6_Y1)) i2_0 i2_2 (fun yi2_0 yi2_2 => kn (st_R23_Packets_2 i2_1 (SHeader.mk (SRect.mk a0_Area_X0 a0_Area_Y0 a0_Area_X1 a0_Area_Y1) a0_TileW a0_TileH a0_Components) (SParams.mk a1_Kernel a1_Levels a1_Color a1_BlockX a1_BlockY a1_Precincts a1_Order a1_Layers (SMode.mk a1_Mode_Bypass a1_Mode_Restart a1_Mode_Reset a1_Mode_Causal a1_Mode_Symbols) a1_Divide a1_Sync a1_Fence a1_Steps a1_Dead a1_Shift) (SRect.mk a2_X0 a2_Y0 a2_X1 a2_Y1) (SRect.mk gc6_X0 gc6_Y0 gc6_X1 gc6_Y1) yi2_0 yi2_2))
  | _ => none
noncomputable def fuel_R23_Packets_0 (i0_0 i0_1 : Int) (a0 : SHeader) (a1 : SParams) (a2 : SRect) : Nat :=
 let x1 : Int := (((List.length a0.Components) : Nat) : Int)
 Int.toNat (x1 - i0_1) + 1
noncomputable def step_R23_Packets_0 {R : Type} (a0 : SHeader) (a1 : SParams) (a2 : SRect) (i0_0 i0_1 : Int) (again : Int → Int → Option R) (kn : Int → Int → Option R) : Option R :=
 let x1 : Int := (((List.length a0.Components) : Nat) : Int)
 bif (decide (i0_1 < x1)) then
 bif (inR i0_1 (List.length a0.Components)) then
 let w2 : List V := (List.getD a0.Components (Int.toNat i0_1) [])
 let x3 : Int := (V.toInt (List.getD w2 2 V.undef))
 bif (inR i0_1 (List.length a0.Components)) then
 let w4 : List V := (List.getD a0.Components (Int.toNat i0_1) [])
 let x5 : Int := (V.toInt (List.getD w4 3 V.undef))
 let c6 : SRect := (m_R01_Reduce a2 x3 x5)
 loop_R23_Packets_2 i0_1 a0 a1 a2 c6 (fuel_R23_Packets_2 i0_0 i0_1 (0 : Int) a0 a1 a2 c6) i0_0 (0 : Int) (fun i2_z7 i2_z8 =>
 let x9 : Int := (IntKind.wrap .i64 (i0_1 + (1 : Int)))
 again i2_z7 x9)
 else none
 else none
 else
 kn i0_0 i0_1
noncomputable def loop_R23_Packets_0 {R : Type} (a0 : SHeader) (a1 : SParams) (a2 : SRect) : Nat → Int → Int → (Int → Int → Option R) → Option R
  | 0, _, _, _ => none
  | n + 1, i0_0, i0_1, kn => step_R23_Packets_0 a0 a1 a2 i0_0 i0_1 (fun yi0_0 yi0_1 => loop_R23_Packets_0 a0 a1 a2 n yi0_0 yi0_1 kn) kn
noncomputable def shape_R23_Packets_0 : ST := ⟨unds 3 (.ptr 0 0 0 :: .ptr 1 0 0 :: .ptr 2 0 0 :: .undef :: .int .i64 :: .int .i64 :: unds 49 []), [(0, .var SHeader.sh false SHeader.ts), (1, .var SParams.sh false SParams.ts), (2, .var SRect.sh false SRect.ts)], 6⟩
noncomputable def st_R23_Packets_0 (a0 : SHeader) (a1 : SParams) (a2 : SRect) (i0_0 i0_1 : Int) : St := shape_R23_Packets_0.put [.i i0_0, .i i0_1, .i a0.Area.X0, .i a0.Area.Y0, .i a0.Area.X1, .i a0.Area.Y1, .i a0.TileW, .i a0.TileH, .r a0.Components, .i a1.Kernel, .i a1.Levels, .i a1.Color, .i a1.BlockX, .i a1.BlockY, .r a1.Precincts, .i a1.Order, .i a1.Layers, .b a1.Mode.Bypass, .b a1.Mode.Restart, .b a1.Mode.Reset, .b a1.Mode.Causal, .b a1.Mode.Symbols, .b a1.Divide, .b a1.Sync, .b a1.Fence, .r a1.Steps, .i a1.Dead, .i a1.Shift, .i a2.X0, .i a2.Y0, .i a2.X1, .i a2.Y1]
noncomputable def hook_R23_Packets_0 {R : Type} : LoopG R := fun l kn _ _ => match l with
  | .i i0_0 :: .i i0_1 :: .i a0_Area_X0 :: .i a0_Area_Y0 :: .i a0_Area_X1 :: .i a0_Area_Y1 :: .i a0_TileW :: .i a0_TileH :: .r a0_Components :: .i a1_Kernel :: .i a1_Levels :: .i a1_Color :: .i a1_BlockX :: .i a1_BlockY :: .r a1_Precincts :: .i a1_Order :: .i a1_Layers :: .b a1_Mode_Bypass :: .b a1_Mode_Restart :: .b a1_Mode_Reset :: .b a1_Mode_Causal :: .b a1_Mode_Symbols :: .b a1_Divide :: .b a1_Sync :: .b a1_Fence :: .r a1_Steps :: .i a1_Dead :: .i a1_Shift :: .i a2_X0 :: .i a2_Y0 :: .i a2_X1 :: .i a2_Y1 :: [] => loop_R23_Packets_0 (SHeader.mk (SRect.mk a0_Area_X0 a0_Area_Y0 a0_Area_X1 a0_Area_Y1) a0_TileW a0_TileH a0_Components) (SParams.mk a1_Kernel a1_Levels a1_Color a1_BlockX a1_BlockY a1_Precincts a1_Order a1_Layers (SMode.mk a1_Mode_Bypass a1_Mode_Restart a1_Mode_Reset a1_Mode_Causal a1_Mode_Symbols) a1_Divide a1_Sync a1_Fence a1_Steps a1_Dead a1_Shift) (SRect.mk a2_X0 a2_Y0 a2_X1 a2_Y1) (fuel_R23_Packets_0 i0_0 i0_1 (SHeader.mk (SRect.mk a0_Area_X0 a0_Area_Y0 a0_Area_X1 a0_Area_Y1) a0_TileW a0_TileH a0_Components) (SParams.mk a1_Kernel a1_Levels a1_Color a1_BlockX a1_BlockY a1_Precincts a1_Order a1_Layers (SMode.mk a1_Mode_Bypass a1_Mode_Restart a1_Mode_Reset a1_Mode_Causal a1_Mode_Symbols) a1_Divide a1_Sync a1_Fence a1_Steps a1_Dead a1_Shift) (SRect.mk a2_X0 a2_Y0 a2_X1 a2_Y1)) i0_0 i0_1 (fun yi0_0 yi0_1 => kn (st_R23_Packets_0 (SHeader.mk (SRect.mk a0_Area_X0 a0_Area_Y0 a0_Area_X1 a0_Area_Y1) a0_TileW a0_TileH a0_Components) (SParams.mk a1_Kernel a1_Levels a1_Color a1_BlockX a1_BlockY a1_Precincts a1_Order a1_Layers (SMode.mk a1_Mode_Bypass a1_Mode_Restart a1_Mode_Reset a1_Mode_Causal a1_Mode_Symbols) a1_Divide a1_Sync a1_Fence a1_Steps a1_Dead a1_Shift) (SRect.mk a2_X0 a2_Y0 a2_X1 a2_Y1) yi0_0 yi0_1))
  | _ => none
noncomputable def env_R23_Packets {R : Type} : Env R := ⟨Tryz.prog, callCons 66 c_R01_Reduce (callCons 113 c_R23_Precinct (callCons 114 c_R23_Grid (callCons 115 c_R06_Resolution callNil))), fun id => bif Nat.beq id 2 then loopAlt shape_R23_Packets_2 hook_R23_Packets_2 loopNil else (fun id => bif Nat.beq id 0 then loopAlt shape_R23_Packets_0 hook_R23_Packets_0 loopNil else (fun _ _ _ _ _ => none) id) id, Tryz.f72.results.toList, maskTab 58 [(0, 0x38), (1, 0xb8), (2, 0x1b8), (3, 0x101b8), (4, 0x1b8), (5, 0x3b8), (6, 0x7b8), (7, 0x10000007b8), (8, 0x7b8), (9, 0xfb8), (10, 0x7b8), (11, 0x40)], maskAt [(1, 6), (2, 4), (4, 5), (5, 32), (6, 10), (8, 61), (10, 15), (12, 31), (14, 36), (16, 58), (18, 40), (20, 45), (22, 64)], noSort⟩
theorem step_R23_Packets_2_eq {R : Type} (i2_1 : Int) (a0 : SHeader) (a1 : SParams) (a2 gc6 : SRect) (si2_0 si2_2 : Int) (kn : St → Option R) (kx : Nat → St → Option R) (kr : V → Option R) (n : Nat) (i2_0 i2_2 : Int) :
    loopN env_R23_Packets 2 (loopAt Tryz.f72 1) (st_R23_Packets_2 i2_1 a0 a1 a2 gc6 si2_0 si2_2) kn kx kr (n + 1) (st_R23_Packets_2 i2_1 a0 a1 a2 gc6 i2_0 i2_2) =
    step_R23_Packets_2 i2_1 a0 a1 a2 gc6 i2_0 i2_2 (fun yi2_0 yi2_2 => loopN env_R23_Packets 2 (loopAt Tryz.f72 1) (st_R23_Packets_2 i2_1 a0 a1 a2 gc6 si2_0 si2_2) kn kx kr n (st_R23_Packets_2 i2_1 a0 a1 a2 gc6 yi2_0 yi2_2)) (fun yi2_0 yi2_2 => kn (st_R23_Packets_2 i2_1 a0 a1 a2 gc6 yi2_0 yi2_2)) := by kernel_rfl
theorem loop_R23_Packets_2_eq {R : Type} (i2_1 : Int) (a0 : SHeader) (a1 : SParams) (a2 gc6 : SRect) (si2_0 si2_2 : Int) (kn : St → Option R) (kx : Nat → St → Option R) (kr : V → Option R) : ∀ (n : Nat) (i2_0 i2_2 : Int),
    loop_R23_Packets_2 i2_1 a0 a1 a2 gc6 n i2_0 i2_2 (fun yi2_0 yi2_2 => kn (st_R23_Packets_2 i2_1 a0 a1 a2 gc6 yi2_0 yi2_2)) = loopN env_R23_Packets 2 (loopAt Tryz.f72 1) (st_R23_Packets_2 i2_1 a0 a1 a2 gc6 si2_0 si2_2) kn kx kr n (st_R23_Packets_2 i2_1 a0 a1 a2 gc6 i2_0 i2_2)
  | 0, _, _ => rfl
  | n + 1, i2_0, i2_2 => by
    rw [step_R23_Packets_2_eq, loop_R23_Packets_2]
    congr 1
    funext yi2_0 yi2_2
    exact loop_R23_Packets_2_eq i2_1 a0 a1 a2 gc6 si2_0 si2_2 kn kx kr n yi2_0 yi2_2
theorem goodl_R23_Packets_2 {R : Type} {rest} (h : GoodL (R := R) env_R23_Packets 2 (loopAt Tryz.f72 1) rest) : GoodL (R := R) env_R23_Packets 2 (loopAt Tryz.f72 1) (loopAlt shape_R23_Packets_2 hook_R23_Packets_2 rest) := by
  refine goodL_alt (fun l kn kx kr r h => ?_) h
  unfold hook_R23_Packets_2 at h
  split at h
  · rename_i i2_0 i2_1 i2_2 a0_Area_X0 a0_Area_Y0 a0_Area_X1 a0_Area_Y1 a0_TileW a0_TileH a0_Components a1_Kernel a1_Levels a1_Color a1_BlockX a1_BlockY a1_Precincts a1_Order a1_Layers a1_Mode_Bypass a1_Mode_Restart a1_Mode_Reset a1_Mode_Causal a1_Mode_Symbols a1_Divide a1_Sync a1_Fence a1_Steps a1_Dead a1_Shift a2_X0 a2_Y0 a2_X1 a2_Y1 gc6_X0 gc6_Y0 gc6_X1 gc6_Y1
    exact ⟨_, (loop_R23_Packets_2_eq i2_1 (SHeader.mk (SRect.mk a0_Area_X0 a0_Area_Y0 a0_Area_X1 a0_Area_Y1) a0_TileW a0_TileH a0_Components) (SParams.mk a1_Kernel a1_Levels a1_Color a1_BlockX a1_BlockY a1_Precincts a1_Order a1_Layers (SMode.mk a1_Mode_Bypass a1_Mode_Restart a1_Mode_Reset a1_Mode_Causal a1_Mode_Symbols) a1_Divide a1_Sync a1_Fence a1_Steps a1_Dead a1_Shift) (SRect.mk a2_X0 a2_Y0 a2_X1 a2_Y1) (SRect.mk gc6_X0 gc6_Y0 gc6_X1 gc6_Y1) i2_0 i2_2 kn kx kr _ i2_0 i2_2).symm.trans h⟩
  · cases h
theorem step_R23_Packets_0_eq {R : Type} (a0 : SHeader) (a1 : SParams) (a2 : SRect) (si0_0 si0_1 : Int) (kn : St → Option R) (kx : Nat → St → Option R) (kr : V → Option R) (n : Nat) (i0_0 i0_1 : Int) :
    loopN env_R23_Packets 0 (loopAt Tryz.f72 0) (st_R23_Packets_0 a0 a1 a2 si0_0 si0_1) kn kx kr (n + 1) (st_R23_Packets_0 a0 a1 a2 i0_0 i0_1) =
    step_R23_Packets_0 a0 a1 a2 i0_0 i0_1 (fun yi0_0 yi0_1 => loopN env_R23_Packets 0 (loopAt Tryz.f72 0) (st_R23_Packets_0 a0 a1 a2 si0_0 si0_1) kn kx kr n (st_R23_Packets_0 a0 a1 a2 yi0_0 yi0_1)) (fun yi0_0 yi0_1 => kn (st_R23_Packets_0 a0 a1 a2 yi0_0 yi0_1)) := by kernel_rfl
theorem loop_R23_Packets_0_eq {R : Type} (a0 : SHeader) (a1 : SParams) (a2 : SRect) (si0_0 si0_1 : Int) (kn : St → Option R) (kx : Nat → St → Option R) (kr : V → Option R) : ∀ (n : Nat) (i0_0 i0_1 : Int),
    loop_R23_Packets_0 a0 a1 a2 n i0_0 i0_1 (fun yi0_0 yi0_1 => kn (st_R23_Packets_0 a0 a1 a2 yi0_0 yi0_1)) = loopN env_R23_Packets 0 (loopAt Tryz.f72 0) (st_R23_Packets_0 a0 a1 a2 si0_0 si0_1) kn kx kr n (st_R23_Packets_0 a0 a1 a2 i0_0 i0_1)
  | 0, _, _ => rfl
  | n + 1, i0_0, i0_1 => by
    rw [step_R23_Packets_0_eq, loop_R23_Packets_0]
    congr 1
    funext yi0_0 yi0_1
    exact loop_R23_Packets_0_eq a0 a1 a2 si0_0 si0_1 kn kx kr n yi0_0 yi0_1
theorem goodl_R23_Packets_0 {R : Type} {rest} (h : GoodL (R := R) env_R23_Packets 0 (loopAt Tryz.f72 0) rest) : GoodL (R := R) env_R23_Packets 0 (loopAt Tryz.f72 0) (loopAlt shape_R23_Packets_0 hook_R23_Packets_0 rest) := by
  refine goodL_alt (fun l kn kx kr r h => ?_) h
  unfold hook_R23_Packets_0 at h
  split at h
  · rename_i i0_0 i0_1 a0_Area_X0 a0_Area_Y0 a0_Area_X1 a0_Area_Y1 a0_TileW a0_TileH a0_Components a1_Kernel a1_Levels a1_Color a1_BlockX a1_BlockY a1_Precincts a1_Order a1_Layers a1_Mode_Bypass a1_Mode_Restart a1_Mode_Reset a1_Mode_Causal a1_Mode_Symbols a1_Divide a1_Sync a1_Fence a1_Steps a1_Dead a1_Shift a2_X0 a2_Y0 a2_X1 a2_Y1
    exact ⟨_, (loop_R23_Packets_0_eq (SHeader.mk (SRect.mk a0_Area_X0 a0_Area_Y0 a0_Area_X1 a0_Area_Y1) a0_TileW a0_TileH a0_Components) (SParams.mk a1_Kernel a1_Levels a1_Color a1_BlockX a1_BlockY a1_Precincts a1_Order a1_Layers (SMode.mk a1_Mode_Bypass a1_Mode_Restart a1_Mode_Reset a1_Mode_Causal a1_Mode_Symbols) a1_Divide a1_Sync a1_Fence a1_Steps a1_Dead a1_Shift) (SRect.mk a2_X0 a2_Y0 a2_X1 a2_Y1) i0_0 i0_1 kn kx kr _ i0_0 i0_1).symm.trans h⟩
  · cases h
theorem good_R23_Packets_0 {R : Type} : GoodLoop (R := R) env_R23_Packets 0 (loopAt Tryz.f72 0) := goodL_loop (g := loopAlt shape_R23_Packets_0 hook_R23_Packets_0 loopNil) (fun _ _ _ _ => rfl) (goodl_R23_Packets_0 goodL_nil)
theorem good_R23_Packets_2 {R : Type} : GoodLoop (R := R) env_R23_Packets 2 (loopAt Tryz.f72 1) := goodL_loop (g := loopAlt shape_R23_Packets_2 hook_R23_Packets_2 loopNil) (fun _ _ _ _ => rfl) (goodl_R23_Packets_2 goodL_nil)
noncomputable def spec_R23_Packets {R : Type} (a0 : SHeader) (a1 : SParams) (a2 : SRect) (k : V → Option R) : Option R :=
 loop_R23_Packets_0 a0 a1 a2 (fuel_R23_Packets_0 (0 : Int) (0 : Int) a0 a1 a2) (0 : Int) (0 : Int) (fun i0_z10 i0_z11 =>
 let x12 : Int := (IntKind.wrap .i64 (i0_z10 * a1.Layers))
 k (V.int .i64 x12))
abbrev av_R23_Packets (a0 : SHeader) (a1 : SParams) (a2 : SRect) : List V := [(SHeader.v a0), (SParams.v a1), (SRect.v a2)]
theorem spec_R23_Packets_eq {R : Type} (a0 : SHeader) (a1 : SParams) (a2 : SRect) (k : V → Option R) : fnK env_R23_Packets Tryz.f72 (av_R23_Packets a0 a1 a2) k = spec_R23_Packets a0 a1 a2 k := by kernel_rfl
theorem ok_R23_Packets (h_R01_Reduce : G_R01_Reduce) (h_R23_Precinct : G_R23_Precinct) (h_R23_Grid : G_R23_Grid) (h_R06_Resolution : G_R06_Resolution) (a0 : SHeader) (a1 : SParams) (a2 : SRect) {v : V} (h : Real (av_R23_Packets a0 a1 a2) → spec_R23_Packets a0 a1 a2 some = some v) : FunOK Tryz.prog 72 (av_R23_Packets a0 a1 a2) v :=
  fn_ok (fn := Tryz.f72) (c := bodyOf Tryz.f72) (E := env_R23_Packets) ⟨by kernel_rfl, (goodCons h_R01_Reduce (goodCons h_R23_Precinct (goodCons h_R23_Grid (goodCons h_R06_Resolution goodNil)))), rfl, goodS_no⟩ rfl (by kernel_rfl) (by kernel_rfl) (by kernel_rfl)
  (loopsOK_of _ (by
    have e : loopsOf (bodyOf Tryz.f72) = [(0, loopAt Tryz.f72 0), (2, loopAt Tryz.f72 1)] := by kernel_rfl
    rw [e]
    simp only [List.forall_mem_cons, List.not_mem_nil, false_implies, implies_true, and_true]
    exact ⟨good_R23_Packets_0, good_R23_Packets_2⟩))
  (fun hr => (spec_R23_Packets_eq a0 a1 a2 some).trans (h hr))
theorem mk_R23_Packets (h_R01_Reduce : G_R01_Reduce) (h_R23_Precinct : G_R23_Precinct) (h_R23_Grid : G_R23_Grid) (h_R06_Resolution : G_R06_Resolution) (h : ∀ (a0 : SHeader) (a1 : SParams) (a2 : SRect), pre_R23_Packets a0 a1 a2 = true → Real (av_R23_Packets a0 a1 a2) → spec_R23_Packets a0 a1 a2 some = some (V.int .i64 (m_R23_Packets a0 a1 a2))) : G_R23_Packets := goodHook1 fun l hp => by
  unfold hp_R23_Packets at hp
  split at hp
  · rename_i x0 x1 x2 x3 x4 x5 x6 x7 x8 x9 x10 x11 x12 x13 x14 x15 x16 x17 x18 x19 x20 x21 x22 x23 x24 x25 x26 x27 x28 x29
    exact ok_R23_Packets h_R01_Reduce h_R23_Precinct h_R23_Grid h_R06_Resolution (SHeader.mk (SRect.mk x0 x1 x2 x3) x4 x5 x6) (SParams.mk x7 x8 x9 x10 x11 x12 x13 x14 (SMode.mk x15 x16 x17 x18 x19) x20 x21 x22 x23 x24 x25) (SRect.mk x26 x27 x28 x29) fun hr => h (SHeader.mk (SRect.mk x0 x1 x2 x3) x4 x5 x6) (SParams.mk x7 x8 x9 x10 x11 x12 x13 x14 (SMode.mk x15 x16 x17 x18 x19) x20 x21 x22 x23 x24 x25) (SRect.mk x26 x27 x28 x29) hp hr
  · cases hp
noncomputable def env_R06_Place {R : Type} : Env R := ⟨Tryz.prog, callCons 151 c_R06_Count callNil, fun _ _ _ _ _ => none, Tryz.f152.results.toList, maskTab 31 [(0, 0x7803), (1, 0x8003), (2, 0x70), (3, 0x20003), (4, 0x70), (5, 0x83), (6, 0x70)], maskAt [(2, 3), (4, 11), (6, 14), (8, 16), (10, 20), (12, 24)], noSort⟩
noncomputable def spec_R06_Place {R : Type} (a0 a1 : Int) (k : V → Option R) : Option R :=
 let b1 : Bool := (decide (a0 < (0 : Int)))
 bif (b1 == false) then
 let c2 : Int := (m_R06_Count a1)
 bif (decide (a0 ≥ c2)) then
 k (V.tup [(V.int .i64 (0 : Int)), (V.int .i64 (0 : Int)), (V.bool false)])
 else
 bif (a0 == (0 : Int)) then
 k (V.tup [(V.int .i64 a1), (V.int .i64 (0 : Int)), (V.bool true)])
 else
 let x3 : Int := (IntKind.wrap .i64 (a0 + (2 : Int)))
 let x4 : Int := (IntKind.wrap .i64 (Int.tdiv x3 (3 : Int)))
 let x5 : Int := (IntKind.wrap .i64 (a1 - x4))
 let x6 : Int := (IntKind.wrap .i64 (x5 + (1 : Int)))
 let x7 : Int := (IntKind.wrap .i64 ((3 : Int) * x4))
 let x8 : Int := (IntKind.wrap .i64 (a0 - x7))
 let x9 : Int := (IntKind.wrap .i64 (x8 + (3 : Int)))
 k (V.tup [(V.int .i64 x6), (V.int .i64 x9), (V.bool true)])
 else
 k (V.tup [(V.int .i64 (0 : Int)), (V.int .i64 (0 : Int)), (V.bool false)])
abbrev av_R06_Place (a0 a1 : Int) : List V := [(V.int .i64 a0), (V.int .i64 a1)]
theorem spec_R06_Place_eq {R : Type} (a0 a1 : Int) (k : V → Option R) : fnK env_R06_Place Tryz.f152 (av_R06_Place a0 a1) k = spec_R06_Place a0 a1 k := by kernel_rfl
theorem ok_R06_Place (h_R06_Count : G_R06_Count) (a0 a1 : Int) {v : V} (h : Real (av_R06_Place a0 a1) → spec_R06_Place a0 a1 some = some v) : FunOK Tryz.prog 152 (av_R06_Place a0 a1) v :=
  fn_ok (fn := Tryz.f152) (c := bodyOf Tryz.f152) (E := env_R06_Place) ⟨by kernel_rfl, (goodCons h_R06_Count goodNil), rfl, goodS_no⟩ rfl (by kernel_rfl) (by kernel_rfl) (by kernel_rfl)
  (loopsOK_of _ (by
    have e : loopsOf (bodyOf Tryz.f152) = [] := by kernel_rfl
    rw [e]
    intro p hp; cases hp))
  (fun hr => (spec_R06_Place_eq a0 a1 some).trans (h hr))
theorem mk_R06_Place (h_R06_Count : G_R06_Count) (h : ∀ (a0 a1 : Int), Real (av_R06_Place a0 a1) → spec_R06_Place a0 a1 some = some (V.tup [(V.int .i64 (m_R06_Place a0 a1).1), (V.int .i64 (m_R06_Place a0 a1).2.1), (V.bool (m_R06_Place a0 a1).2.2)])) : G_R06_Place := goodHook1 fun l hp => by
  unfold hp_R06_Place at hp
  split at hp
  · rename_i x0 x1
    exact ok_R06_Place h_R06_Count x0 x1 fun hr => h x0 x1 hr
  · cases hp
theorem au_R06_Place (a0 a1 : Int) : spec_R06_Place a0 a1 some = some ((fun (m : Int × Int × Bool) => (V.tup [(V.int .i64 m.1), (V.int .i64 m.2.1), (V.bool m.2.2)])) (m_R06_Place a0 a1)) := by
  repeat' (first | rfl | refine bif_t (v := (fun (m : Int × Int × Bool) => (V.tup [(V.int .i64 m.1), (V.int .i64 m.2.1), (V.bool m.2.2)]))) ?_ ?_)
theorem good_R06_Place_of (h_R06_Count : G_R06_Count) : G_R06_Place := mk_R06_Place h_R06_Count (fun _ _ _ => au_R06_Place _ _)
noncomputable def env_R05_half {R : Type} : Env R := ⟨Tryz.prog, callNil, fun _ _ _ _ _ => none, Tryz.f184.results.toList, maskTab 11 [(0, 0x3), (1, 0x21), (2, 0x10), (3, 0x10)], maskAt [(2, 1), (4, 2), (6, 5)], noSort⟩
noncomputable def spec_R05_half {R : Type} (a0 : Int) (a1 : Bool) (k : V → Option R) : Option R :=
 bif a1 then
 let x1 : Int := (IntKind.wrap .i64 (Int.tdiv a0 (2 : Int)))
 k (V.int .i64 x1)
 else
 let x2 : Int := (IntKind.wrap .i64 (a0 + (1 : Int)))
 let x3 : Int := (IntKind.wrap .i64 (Int.tdiv x2 (2 : Int)))
 k (V.int .i64 x3)
abbrev av_R05_half (a0 : Int) (a1 : Bool) : List V := [(V.int .i64 a0), (V.bool a1)]
theorem spec_R05_half_eq {R : Type} (a0 : Int) (a1 : Bool) (k : V → Option R) : fnK env_R05_half Tryz.f184 (av_R05_half a0 a1) k = spec_R05_half a0 a1 k := by kernel_rfl
theorem ok_R05_half (a0 : Int) (a1 : Bool) {v : V} (h : Real (av_R05_half a0 a1) → spec_R05_half a0 a1 some = some v) : FunOK Tryz.prog 184 (av_R05_half a0 a1) v :=
  fn_ok (fn := Tryz.f184) (c := bodyOf Tryz.f184) (E := env_R05_half) ⟨by kernel_rfl, goodNil, rfl, goodS_no⟩ rfl (by kernel_rfl) (by kernel_rfl) (by kernel_rfl)
  (loopsOK_of _ (by
    have e : loopsOf (bodyOf Tryz.f184) = [] := by kernel_rfl
    rw [e]
    intro p hp; cases hp))
  (fun hr => (spec_R05_half_eq a0 a1 some).trans (h hr))
theorem mk_R05_half (h : ∀ (a0 : Int) (a1 : Bool), Real (av_R05_half a0 a1) → spec_R05_half a0 a1 some = some (V.int .i64 (m_R05_half a0 a1))) : G_R05_half := goodHook1 fun l hp => by
  unfold hp_R05_half at hp
  split at hp
  · rename_i x0 x1
    exact ok_R05_half x0 x1 fun hr => h x0 x1 hr
  · cases hp
theorem au_R05_half (a0 : Int) (a1 : Bool) : spec_R05_half a0 a1 some = some ((fun (m : Int) => (V.int .i64 m)) (m_R05_half a0 a1)) := by
  repeat' (first | rfl | refine bif_t (v := (fun (m : Int) => (V.int .i64 m))) ?_ ?_)
theorem good_R05_half_of : G_R05_half := mk_R05_half (fun _ _ _ => au_R05_half _ _)
noncomputable def shape_R05_Bands_0 : ST := ⟨.undef :: .ptr 0 0 0 :: .ptr 1 0 0 :: .ptr 3 0 0 :: .lit .i64 0 :: unds 43 [], [(0, .var SRect.sh false [.int .i64, .int .i64, .int .i64, .int .i64]), (1, .var SA4_Rect.sh false [.lit .i64 0, .lit .i64 0, .lit .i64 0, .lit .i64 0, .lit .i64 0, .lit .i64 0, .lit .i64 0, .lit .i64 0, .lit .i64 0, .lit .i64 0, .lit .i64 0, .lit .i64 0, .lit .i64 0, .lit .i64 0, .lit .i64 0, .lit .i64 0]), (3, .var SA4_Rect.sh false [.lit .i64 0, .lit .i64 0, .lit .i64 0, .lit .i64 0, .lit .i64 0, .lit .i64 0, .lit .i64 0, .lit .i64 0, .lit .i64 0, .lit .i64 0, .lit .i64 0, .lit .i64 0, .lit .i64 0, .lit .i64 0, .lit .i64 0, .lit .i64 0])], 11⟩
noncomputable def un_R05_Bands_0 {R : Type} (a0 : SRect) (kn : St → Option R) (kr : V → Option R) : Option R :=
 let c2 : Int := (m_R05_half a0.X0 false)
 let c3 : Int := (m_R05_half a0.Y0 false)
 let c4 : Int := (m_R05_half a0.X1 false)
 let c5 : Int := (m_R05_half a0.Y1 false)
 let c6 : Int := (m_R05_half a0.X0 true)
 let c7 : Int := (m_R05_half a0.Y0 false)
 let c8 : Int := (m_R05_half a0.X1 true)
 let c9 : Int := (m_R05_half a0.Y1 false)
 let c10 : Int := (m_R05_half a0.X0 false)
 let c11 : Int := (m_R05_half a0.Y0 true)
 let c12 : Int := (m_R05_half a0.X1 false)
 let c13 : Int := (m_R05_half a0.Y1 true)
 let c14 : Int := (m_R05_half a0.X0 true)
 let c15 : Int := (m_R05_half a0.Y0 true)
 let c16 : Int := (m_R05_half a0.X1 true)
 let c17 : Int := (m_R05_half a0.Y1 true)
 kn ⟨[V.undef, (V.ptr 0 (0 : Nat) 0), (V.ptr 1 (0 : Nat) 0), (V.ptr 3 (0 : Nat) 0), (V.int .i64 (4 : Int)), V.undef, V.undef, V.undef, V.undef, V.undef, V.undef, V.undef, V.undef, V.undef, V.undef, V.undef, V.undef, V.undef, V.undef, V.undef, V.undef, V.undef, V.undef, V.undef, V.undef, V.undef, V.undef, V.undef, V.undef, V.undef, V.undef, V.undef, V.undef, V.undef, V.undef, V.undef, V.undef, V.undef, V.undef, V.undef, V.undef, V.undef, V.undef, V.undef, V.undef, V.undef, V.undef, V.undef], [(0, ⟨false, SRect.sh, [(SRect.row a0)], false⟩), (1, ⟨false, SA4_Rect.sh, [[(V.int .i64 (0 : Int)), (V.int .i64 (0 : Int)), (V.int .i64 (0 : Int)), (V.int .i64 (0 : Int)), (V.int .i64 (0 : Int)), (V.int .i64 (0 : Int)), (V.int .i64 (0 : Int)), (V.int .i64 (0 : Int)), (V.int .i64 (0 : Int)), (V.int .i64 (0 : Int)), (V.int .i64 (0 : Int)), (V.int .i64 (0 : Int)), (V.int .i64 (0 : Int)), (V.int .i64 (0 : Int)), (V.int .i64 (0 : Int)), (V.int .i64 (0 : Int))]], false⟩), (3, ⟨false, SA4_Rect.sh, [[(V.int .i64 c2), (V.int .i64 c3), (V.int .i64 c4), (V.int .i64 c5), (V.int .i64 c6), (V.int .i64 c7), (V.int .i64 c8), (V.int .i64 c9), (V.int .i64 c10), (V.int .i64 c11), (V.int .i64 c12), (V.int .i64 c13), (V.int .i64 c14), (V.int .i64 c15), (V.int .i64 c16), (V.int .i64 c17)]], false⟩)], 11⟩
noncomputable def hook_R05_Bands_0 {R : Type} : LoopG R := fun l kn _ kr => match l with
  | .i a0_X0 :: .i a0_Y0 :: .i a0_X1 :: .i a0_Y1 :: [] => un_R05_Bands_0 (SRect.mk a0_X0 a0_Y0 a0_X1 a0_Y1) kn kr
  | _ => none
noncomputable def env_R05_Bands {R : Type} : Env R := ⟨Tryz.prog, callCons 63 c_R01_Valid (callCons 184 c_R05_half callNil), fun id => bif Nat.beq id 0 then loopAlt shape_R05_Bands_0 hook_R05_Bands_0 loopNil else (fun _ _ _ _ _ => none) id, Tryz.f153.results.toList, maskTab 48 [(0, 0x6180006), (1, 0x618000e), (2, 0x618040e), (3, 0x4), (4, 0x618001e), (5, 0x618201e), (6, 0x618001e), (7, 0x618003e), (8, 0x618007e), (9, 0x618001e), (10, 0x4)], maskAt [(1, 11), (2, 2), (4, 5), (6, 8), (8, 10), (10, 15), (12, 51), (14, 17), (16, 24), (18, 31), (20, 54)], noSort⟩
theorem un_R05_Bands_0_eq {R : Type} (a0 : SRect) (kn : St → Option R) (kx : Nat → St → Option R) (kr : V → Option R) : loopN env_R05_Bands 0 (loopAt Tryz.f153 0) (shape_R05_Bands_0.put [.i a0.X0, .i a0.Y0, .i a0.X1, .i a0.Y1]) kn kx kr 5 (shape_R05_Bands_0.put [.i a0.X0, .i a0.Y0, .i a0.X1, .i a0.Y1]) = un_R05_Bands_0 a0 kn kr := by kernel_rfl
theorem goodl_R05_Bands_0 {R : Type} {rest} (h : GoodL (R := R) env_R05_Bands 0 (loopAt Tryz.f153 0) rest) : GoodL (R := R) env_R05_Bands 0 (loopAt Tryz.f153 0) (loopAlt shape_R05_Bands_0 hook_R05_Bands_0 rest) := by
  refine goodL_alt (fun l kn kx kr r h => ?_) h
  unfold hook_R05_Bands_0 at h
  split at h
  · rename_i a0_X0 a0_Y0 a0_X1 a0_Y1
    exact ⟨5, (un_R05_Bands_0_eq (SRect.mk a0_X0 a0_Y0 a0_X1 a0_Y1) kn kx kr).trans h⟩
  · cases h
theorem good_R05_Bands_0 {R : Type} : GoodLoop (R := R) env_R05_Bands 0 (loopAt Tryz.f153 0) := goodL_loop (g := loopAlt shape_R05_Bands_0 hook_R05_Bands_0 loopNil) (fun _ _ _ _ => rfl) (goodl_R05_Bands_0 goodL_nil)
noncomputable def spec_R05_Bands {R : Type} (a0 : SRect) (k : V → Option R) : Option R :=
 let c1 : Bool := (m_R01_Valid a0)
 bif (!c1) then
 k (V.agg [(V.int .i64 (0 : Int)), (V.int .i64 (0 : Int)), (V.int .i64 (0 : Int)), (V.int .i64 (0 : Int)), (V.int .i64 (0 : Int)), (V.int .i64 (0 : Int)), (V.int .i64 (0 : Int)), (V.int .i64 (0 : Int)), (V.int .i64 (0 : Int)), (V.int .i64 (0 : Int)), (V.int .i64 (0 : Int)), (V.int .i64 (0 : Int)), (V.int .i64 (0 : Int)), (V.int .i64 (0 : Int)), (V.int .i64 (0 : Int)), (V.int .i64 (0 : Int))])
 else
 let c18 : Int := (m_R05_half a0.X0 false)
 let c19 : Int := (m_R05_half a0.Y0 false)
 let c20 : Int := (m_R05_half a0.X1 false)
 let c21 : Int := (m_R05_half a0.Y1 false)
 let c22 : Int := (m_R05_half a0.X0 true)
 let c23 : Int := (m_R05_half a0.Y0 false)
 let c24 : Int := (m_R05_half a0.X1 true)
 let c25 : Int := (m_R05_half a0.Y1 false)
 let c26 : Int := (m_R05_half a0.X0 false)
 let c27 : Int := (m_R05_half a0.Y0 true)
 let c28 : Int := (m_R05_half a0.X1 false)
 let c29 : Int := (m_R05_half a0.Y1 true)
 let c30 : Int := (m_R05_half a0.X0 true)
 let c31 : Int := (m_R05_half a0.Y0 true)
 let c32 : Int := (m_R05_half a0.X1 true)
 let c33 : Int := (m_R05_half a0.Y1 true)
 k (V.agg [(V.int .i64 c18), (V.int .i64 c19), (V.int .i64 c20), (V.int .i64 c21), (V.int .i64 c22), (V.int .i64 c23), (V.int .i64 c24), (V.int .i64 c25), (V.int .i64 c26), (V.int .i64 c27), (V.int .i64 c28), (V.int .i64 c29), (V.int .i64 c30), (V.int .i64 c31), (V.int .i64 c32), (V.int .i64 c33)])
abbrev av_R05_Bands (a0 : SRect) : List V := [(SRect.v a0)]
theorem spec_R05_Bands_eq {R : Type} (a0 : SRect) (k : V → Option R) : fnK env_R05_Bands Tryz.f153 (av_R05_Bands a0) k = spec_R05_Bands a0 k := by kernel_rfl
theorem ok_R05_Bands (h_R01_Valid : G_R01_Valid) (h_R05_half : G_R05_half) (a0 : SRect) {v : V} (h : Real (av_R05_Bands a0) → spec_R05_Bands a0 some = some v) : FunOK Tryz.prog 153 (av_R05_Bands a0) v :=
  fn_ok (fn := Tryz.f153) (c := bodyOf Tryz.f153) (E := env_R05_Bands) ⟨by kernel_rfl, (goodCons h_R01_Valid (goodCons h_R05_half goodNil)), rfl, goodS_no⟩ rfl (by kernel_rfl) (by kernel_rfl) (by kernel_rfl)
  (loopsOK_of _ (by
    have e : loopsOf (bodyOf Tryz.f153) = [(0, loopAt Tryz.f153 0)] := by kernel_rfl
    rw [e]
    simp only [List.forall_mem_cons, List.not_mem_nil, false_implies, implies_true, and_true]
    exact good_R05_Bands_0))
  (fun hr => (spec_R05_Bands_eq a0 some).trans (h hr))
theorem mk_R05_Bands (h_R01_Valid : G_R01_Valid) (h_R05_half : G_R05_half) (h : ∀ (a0 : SRect), Real (av_R05_Bands a0) → spec_R05_Bands a0 some = some (SA4_Rect.v (m_R05_Bands a0))) : G_R05_Bands := goodHook1 fun l hp => by
  unfold hp_R05_Bands at hp
  split at hp
  · rename_i x0 x1 x2 x3
    exact ok_R05_Bands h_R01_Valid h_R05_half (SRect.mk x0 x1 x2 x3) fun hr => h (SRect.mk x0 x1 x2 x3) hr
  · cases hp
theorem au_R05_Bands (a0 : SRect) : spec_R05_Bands a0 some = some ((fun (m : SA4_Rect) => (SA4_Rect.v m)) (m_R05_Bands a0)) := by
  repeat' (first | rfl | refine bif_t (v := (fun (m : SA4_Rect) => (SA4_Rect.v m))) ?_ ?_)
theorem good_R05_Bands_of (h_R01_Valid : G_R01_Valid) (h_R05_half : G_R05_half) : G_R05_Bands := mk_R05_Bands h_R01_Valid h_R05_half (fun _ _ => au_R05_Bands _)
noncomputable def env_R06_Band {R : Type} : Env R := ⟨Tryz.prog, callCons 63 c_R01_Valid (callCons 115 c_R06_Resolution (callCons 152 c_R06_Place (callCons 153 c_R05_Bands callNil))), fun _ _ _ _ _ => none, Tryz.f116.results.toList, maskTab 40 [(0, 0x70004e), (1, 0x7003ce), (2, 0x8001ce), (3, 0x40), (4, 0x40001ca), (5, 0x40), (6, 0x40)], maskAt [(2, 2), (4, 12), (6, 19), (8, 21), (10, 23), (12, 27)], noSort⟩
noncomputable def spec_R06_Band {R : Type} (a0 : SRect) (a1 a2 : Int) (k : V → Option R) : Option R :=
 let c1 : Int × Int × Bool := (m_R06_Place a2 a1)
 bif ((!c1.2.2) == false) then
 let c2 : Bool := (m_R01_Valid a0)
 bif (!c2) then
 k (V.agg [(V.int .i64 (0 : Int)), (V.int .i64 (0 : Int)), (V.int .i64 (0 : Int)), (V.int .i64 (0 : Int))])
 else
 bif (a2 == (0 : Int)) then
 let c3 : SRect := (m_R06_Resolution a0 a1 (0 : Int))
 k (SRect.v c3)
 else
 let x4 : Int := (IntKind.wrap .i64 (a1 - c1.1))
 let x5 : Int := (IntKind.wrap .i64 (x4 + (1 : Int)))
 let c6 : SRect := (m_R06_Resolution a0 a1 x5)
 let c7 : SA4_Rect := (m_R05_Bands c6)
 bif (true && (inR c1.2.1 (4 : Nat))) then
 let x8 : Int := (bif (decide (c1.2.1 = ((0 : Nat) : Int))) then c7.e0.X0 else (bif (decide (c1.2.1 = ((1 : Nat) : Int))) then c7.e1.X0 else (bif (decide (c1.2.1 = ((2 : Nat) : Int))) then c7.e2.X0 else c7.e3.X0)))
 let x9 : Int := (bif (decide (c1.2.1 = ((0 : Nat) : Int))) then c7.e0.Y0 else (bif (decide (c1.2.1 = ((1 : Nat) : Int))) then c7.e1.Y0 else (bif (decide (c1.2.1 = ((2 : Nat) : Int))) then c7.e2.Y0 else c7.e3.Y0)))
 let x10 : Int := (bif (decide (c1.2.1 = ((0 : Nat) : Int))) then c7.e0.X1 else (bif (decide (c1.2.1 = ((1 : Nat) : Int))) then c7.e1.X1 else (bif (decide (c1.2.1 = ((2 : Nat) : Int))) then c7.e2.X1 else c7.e3.X1)))
 let x11 : Int := (bif (decide (c1.2.1 = ((0 : Nat) : Int))) then c7.e0.Y1 else (bif (decide (c1.2.1 = ((1 : Nat) : Int))) then c7.e1.Y1 else (bif (decide (c1.2.1 = ((2 : Nat) : Int))) then c7.e2.Y1 else c7.e3.Y1)))
 k (V.agg [(V.int .i64 x8), (V.int .i64 x9), (V.int .i64 x10), (V.int .i64 x11)])
 else none
 else
 k (V.agg [(V.int .i64 (0 : Int)), (V.int .i64 (0 : Int)), (V.int .i64 (0 : Int)), (V.int .i64 (0 : Int))])
abbrev av_R06_Band (a0 : SRect) (a1 a2 : Int) : List V := [(SRect.v a0), (V.int .i64 a1), (V.int .i64 a2)]
theorem spec_R06_Band_eq {R : Type} (a0 : SRect) (a1 a2 : Int) (k : V → Option R) : fnK env_R06_Band Tryz.f116 (av_R06_Band a0 a1 a2) k = spec_R06_Band a0 a1 a2 k := by kernel_rfl
theorem ok_R06_Band (h_R01_Valid : G_R01_Valid) (h_R06_Resolution : G_R06_Resolution) (h_R06_Place : G_R06_Place) (h_R05_Bands : G_R05_Bands) (a0 : SRect) (a1 a2 : Int) {v : V} (h : Real (av_R06_Band a0 a1 a2) → spec_R06_Band a0 a1 a2 some = some v) : FunOK Tryz.prog 116 (av_R06_Band a0 a1 a2) v :=
  fn_ok (fn := Tryz.f116) (c := bodyOf Tryz.f116) (E := env_R06_Band) ⟨by kernel_rfl, (goodCons h_R01_Valid (goodCons h_R06_Resolution (goodCons h_R06_Place (goodCons h_R05_Bands goodNil)))), rfl, goodS_no⟩ rfl (by kernel_rfl) (by kernel_rfl) (by kernel_rfl)
  (loopsOK_of _ (by
    have e : loopsOf (bodyOf Tryz.f116) = [] := by kernel_rfl
    rw [e]
    intro p hp; cases hp))
  (fun hr => (spec_R06_Band_eq a0 a1 a2 some).trans (h hr))
theorem mk_R06_Band (h_R01_Valid : G_R01_Valid) (h_R06_Resolution : G_R06_Resolution) (h_R06_Place : G_R06_Place) (h_R05_Bands : G_R05_Bands) (h : ∀ (a0 : SRect) (a1 a2 : Int), Real (av_R06_Band a0 a1 a2) → spec_R06_Band a0 a1 a2 some = some (SRect.v (m_R06_Band a0 a1 a2))) : G_R06_Band := goodHook1 fun l hp => by
  unfold hp_R06_Band at hp
  split at hp
  · rename_i x0 x1 x2 x3 x4 x5
    exact ok_R06_Band h_R01_Valid h_R06_Resolution h_R06_Place h_R05_Bands (SRect.mk x0 x1 x2 x3) x4 x5 fun hr => h (SRect.mk x0 x1 x2 x3) x4 x5 hr
  · cases hp
theorem au_R06_Band (a0 : SRect) (a1 a2 : Int) : pre_R06_Band a0 a1 a2 = true → spec_R06_Band a0 a1 a2 some = some ((fun (m : SRect) => (SRect.v m)) (m_R06_Band a0 a1 a2)) := by
  repeat' (first | exact fun _ => rfl | exact fun h => absurd h (by decide) | refine bif_p (v := (fun (m : SRect) => (SRect.v m))) ?_ ?_)
theorem good_R06_Band_of (h_R01_Valid : G_R01_Valid) (h_R06_Resolution : G_R06_Resolution) (h_R06_Place : G_R06_Place) (h_R05_Bands : G_R05_Bands) : G_R06_Band := mk_R06_Band h_R01_Valid h_R06_Resolution h_R06_Place h_R05_Bands (fun _ _ _ _ => au_R06_Band _ _ _ (pt_R06_Band _ _ _))
noncomputable def fuel_R23_Blocks_2 (i2_0 i2_1 i2_2 : Int) (a0 : SHeader) (a1 : SParams) (a2 gc6 : SRect) : Nat :=
 let x7 : Int := (IntKind.wrap .i64 ((3 : Int) * a1.Levels))
 Int.toNat (x7 - i2_2) + 2
noncomputable def step_R23_Blocks_2 {R : Type} (i2_1 : Int) (a0 : SHeader) (a1 : SParams) (a2 gc6 : SRect) (i2_0 i2_2 : Int) (again : Int → Int → Option R) (kn : Int → Int → Option R) : Option R :=
 let x7 : Int := (IntKind.wrap .i64 ((3 : Int) * a1.Levels))
 bif (decide (i2_2 ≤ x7)) then
 let x8 : Int := (IntKind.wrap .i64 (i2_2 + (2 : Int)))
 let x9 : Int := (IntKind.wrap .i64 (Int.tdiv x8 (3 : Int)))
 let c10 : SPoint := (m_R23_Precinct a1 x9)
 let c11 : SRect := (m_R06_Band gc6 a1.Levels i2_2)
 let x12 : Int := (bif (decide ((1 : Int) < x9)) then (1 : Int) else x9)
 let x13 : Int := (IntKind.wrap .i64 (c10.X - x12))
 let x14 : Int := (bif (decide (x13 < a1.BlockX)) then x13 else a1.BlockX)
 let x15 : Int := (bif (decide ((1 : Int) < x9)) then (1 : Int) else x9)
 let x16 : Int := (IntKind.wrap .i64 (c10.Y - x15))
 let x17 : Int := (bif (decide (x16 < a1.BlockY)) then x16 else a1.BlockY)
 bif (pre_R23_Grid c11 x14 x17) then
 let c18 : Int := (m_R23_Grid c11 x14 x17)
 let x19 : Int := (bif (decide (c18 > i2_0)) then c18 else i2_0)
 let x20 : Int := (IntKind.wrap .i64 (i2_2 + (1 : Int)))
 again x19 x20
 else none
 else
 kn i2_0 i2_2
noncomputable def loop_R23_Blocks_2 {R : Type} (i2_1 : Int) (a0 : SHeader) (a1 : SParams) (a2 gc6 : SRect) : Nat → Int → Int → (Int → Int → Option R) → Option R
  | 0, _, _, _ => none
  | n + 1, i2_0, i2_2, kn => step_R23_Blocks_2 i2_1 a0 a1 a2 gc6 i2_0 i2_2 (fun yi2_0 yi2_2 => loop_R23_Blocks_2 i2_1 a0 a1 a2 gc6 n yi2_0 yi2_2 kn) kn
noncomputable def shape_R23_Blocks_2 : ST := ⟨unds 3 (.ptr 0 0 0 :: .ptr 1 0 0 :: .ptr 2 0 0 :: .undef :: .int .i64 :: .int .i64 :: .ptr 29 0 0 :: .int .i64 :: unds 61 []), [(0, .var SHeader.sh false SHeader.ts), (1, .var SParams.sh false SParams.ts), (2, .var SRect.sh false SRect.ts), (29, .var SRect.sh false SRect.ts)], 32⟩
noncomputable def st_R23_Blocks_2 (i2_1 : Int) (a0 : SHeader) (a1 : SParams) (a2 gc6 : SRect) (i2_0 i2_2 : Int) : St := shape_R23_Blocks_2.put [.i i2_0, .i i2_1, .i i2_2, .i a0.Area.X0, .i a0.Area.Y0, .i a0.Area.X1, .i a0.Area.Y1, .i a0.TileW, .i a0.TileH, .r a0.Components, .i a1.Kernel, .i a1.Levels, .i a1.Color, .i a1.BlockX, .i a1.BlockY, .r a1.Precincts, .i a1.Order, .i a1.Layers, .b a1.Mode.Bypass, .b a1.Mode.Restart, .b a1.Mode.Reset, .b a1.Mode.Causal, .b a1.Mode.Symbols, .b a1.Divide, .b a1.Sync, .b a1.Fence, .r a1.Steps, .i a1.Dead, .i a1.Shift, .i a2.X0, .i a2.Y0, .i a2.X1, .i a2.Y1, .i gc6.X0, .i gc6.Y0, .i gc6.X1, .i gc6.Y1]
noncomputable def hook_R23_Blocks_2 {R : Type} : LoopG R := fun l kn _ _ => match l with
  | .i i2_0 :: .i i2_1 :: .i i2_2 :: .i a0_Area_X0 :: .i a0_Area_Y0 :: .i a0_Area_X1 :: .i a0_Area_Y1 :: .i a0_TileW :: .i a0_TileH :: .r a0_Components :: .i a1_Kernel :: .i a1_Levels :: .i a1_Color :: .i a1_BlockX :: .i a1_BlockY :: .r a1_Precincts :: .i a1_Order :: .i a1_Layers :: .b a1_Mode_Bypass :: .b a1_Mode_Restart :: .b a1_Mode_Reset :: .b a1_Mode_Causal :: .b a1_Mode_Symbols :: .b a1_Divide :: .b a1_Sync :: .b a1_Fence :: .r a1_Steps :: .i a1_Dead :: .i a1_Shift :: .i a2_X0 :: .i a2_Y0 :: .i a2_X1 :: .i a2_Y1 :: .i gc6_X0 :: .i gc6_Y0 :: .i gc6_X1 :: .i gc6_Y1 :: [] => loop_R23_Blocks_2 i2_1 (SHeader.mk (SRect.mk a0_Area_X0 a0_Area_Y0 a0_Area_X1 a0_Area_Y1) a0_TileW a0_TileH a0_Components) (SParams.mk a1_Kernel a1_Levels a1_Color a1_BlockX a1_BlockY a1_Precincts a1_Order a1_Layers (SMode.mk a1_Mode_Bypass a1_Mode_Restart a1_Mode_Reset a1_Mode_Causal a1_Mode_Symbols) a1_Divide a1_Sync a1_Fence a1_Steps a1_Dead a1_Shift) (SRect.mk a2_X0 a2_Y0 a2_X1 a2_Y1) (SRect.mk gc6_X0 gc6_Y0 gc6_X1 gc6_Y1) (fuel_R23_Blocks_2 i2_0 i2_1 i2_2 (SHeader.mk (SRect.mk a0_Area_X0 a0_Area_Y0 a0_Area_X1 a0_Area_Y1) a0_TileW a0_TileH a0_Components) (SParams.mk a1_Kernel a1_Levels a1_Color a1_BlockX a1_BlockY a1_Precincts a1_Order a1_Layers (SMode.mk a1_Mode_Bypass a1_Mode_Restart a1_Mode_Reset a1_Mode_Causal a1_Mode_Symbols) a1_Divide a1_Sync a1_Fence a1_Steps a1_Dead a1_Shift) (SRect.mk a2_X0 a2_Y0 a2_X1 a2_Y1) (SRect.mk gc6_X0 gc6_Y0 gc6_X1 gc6_Y1)) i2_0 i2_2 (fun yi2_0 yi2_2 => kn (st_R23_Blocks_2 i2_1 (SHeader.mk (SRect.mk a0_Area_X0 a0_Area_Y0 a0_Area_X1 a0_Area_Y1) a0_TileW a0_TileH a0_Components) (SParams.mk a1_Kernel a1_Levels a1_Color a1_BlockX a1_BlockY a1_Precincts a1_Order a1_Layers (SMode.mk a1_Mode_Bypass a1_Mode_Restart a1_Mode_Reset a1_Mode_Causal a1_Mode_Symbols) a1_Divide a1_Sync a1_Fence a1_Steps a1_Dead a1_Shift) (SRect.mk a2_X0 a2_Y0 a2_X1 a2_Y1) (SRect.mk gc6_X0 gc6_Y0 gc6_X1 gc6_Y1) yi2_0 yi2_2))
  | _ => none
noncomputable def fuel_R23_Blocks_0 (i0_0 i0_1 : Int) (a0 : SHeader) (a1 : SParams) (a2 : SRect) : Nat :=
 let x1 : Int := (((List.length a0.Components) : Nat) : Int)
 Int.toNat (x1 - i0_1) + 1
noncomputable def step_R23_Blocks_0 {R : Type} (a0 : SHeader) (a1 : SParams) (a2 : SRect) (i0_0 i0_1 : Int) (again : Int → Int → Option R) (kn : Int → Int → Option R) : Option R :=
 let x1 : Int := (((List.length a0.Components) : Nat) : Int)
 bif (decide (i0_1 < x1)) then
 bif (inR i0_1 (List.length a0.Components)) then
 let w2 : List V := (List.getD a0.Components (Int.toNat i0_1) [])
 let x3 : Int := (V.toInt (List.getD w2 2 V.undef))
 bif (inR i0_1 (List.length a0.Components)) then
 let w4 : List V := (List.getD a0.Components (Int.toNat i0_1) [])
 let x5 : Int := (V.toInt (List.getD w4 3 V.undef))
 let c6 : SRect := (m_R01_Reduce a2 x3 x5)
 loop_R23_Blocks_2 i0_1 a0 a1 a2 c6 (fuel_R23_Blocks_2 i0_0 i0_1 (0 : Int) a0 a1 a2 c6) i0_0 (0 : Int) (fun i2_z7 i2_z8 =>
 let x9 : Int := (IntKind.wrap .i64 (i0_1 + (1 : Int)))
 again i2_z7 x9)
 else none
 else none
 else
 kn i0_0 i0_1
noncomputable def loop_R23_Blocks_0 {R : Type} (a0 : SHeader) (a1 : SParams) (a2 : SRect) : Nat → Int → Int → (Int → Int → Option R) → Option R
  | 0, _, _, _ => none
  | n + 1, i0_0, i0_1, kn => step_R23_Blocks_0 a0 a1 a2 i0_0 i0_1 (fun yi0_0 yi0_1 => loop_R23_Blocks_0 a0 a1 a2 n yi0_0 yi0_1 kn) kn
noncomputable def shape_R23_Blocks_0 : ST := ⟨unds 3 (.ptr 0 0 0 :: .ptr 1 0 0 :: .ptr 2 0 0 :: .undef :: .int .i64 :: .int .i64 :: unds 63 []), [(0, .var SHeader.sh false SHeader.ts), (1, .var SParams.sh false SParams.ts), (2, .var SRect.sh false SRect.ts)], 6⟩
noncomputable def st_R23_Blocks_0 (a0 : SHeader) (a1 : SParams) (a2 : SRect) (i0_0 i0_1 : Int) : St := shape_R23_Blocks_0.put [.i i0_0, .i i0_1, .i a0.Area.X0, .i a0.Area.Y0, .i a0.Area.X1, .i a0.Area.Y1, .i a0.TileW, .i a0.TileH, .r a0.Components, .i a1.Kernel, .i a1.Levels, .i a1.Color, .i a1.BlockX, .i a1.BlockY, .r a1.Precincts, .i a1.Order, .i a1.Layers, .b a1.Mode.Bypass, .b a1.Mode.Restart, .b a1.Mode.Reset, .b a1.Mode.Causal, .b a1.Mode.Symbols, .b a1.Divide, .b a1.Sync, .b a1.Fence, .r a1.Steps, .i a1.Dead, .i a1.Shift, .i a2.X0, .i a2.Y0, .i a2.X1, .i a2.Y1]
noncomputable def hook_R23_Blocks_0 {R : Type} : LoopG R := fun l kn _ _ => match l with
  | .i i0_0 :: .i i0_1 :: .i a0_Area_X0 :: .i a0_Area_Y0 :: .i a0_Area_X1 :: .i a0_Area_Y1 :: .i a0_TileW :: .i a0_TileH :: .r a0_Components :: .i a1_Kernel :: .i a1_Levels :: .i a1_Color :: .i a1_BlockX :: .i a1_BlockY :: .r a1_Precincts :: .i a1_Order :: .i a1_Layers :: .b a1_Mode_Bypass :: .b a1_Mode_Restart :: .b a1_Mode_Reset :: .b a1_Mode_Causal :: .b a1_Mode_Symbols :: .b a1_Divide :: .b a1_Sync :: .b a1_Fence :: .r a1_Steps :: .i a1_Dead :: .i a1_Shift :: .i a2_X0 :: .i a2_Y0 :: .i a2_X1 :: .i a2_Y1 :: [] => loop_R23_Blocks_0 (SHeader.mk (SRect.mk a0_Area_X0 a0_Area_Y0 a0_Area_X1 a0_Area_Y1) a0_TileW a0_TileH a0_Components) (SParams.mk a1_Kernel a1_Levels a1_Color a1_BlockX a1_BlockY a1_Precincts a1_Order a1_Layers (SMode.mk a1_Mode_Bypass a1_Mode_Restart a1_Mode_Reset a1_Mode_Causal a1_Mode_Symbols) a1_Divide a1_Sync a1_Fence a1_Steps a1_Dead a1_Shift) (SRect.mk a2_X0 a2_Y0 a2_X1 a2_Y1) (fuel_R23_Blocks_0 i0_0 i0_1 (SHeader.mk (SRect.mk a0_Area_X0 a0_Area_Y0 a0_Area_X1 a0_Area_Y1) a0_TileW a0_TileH a0_Components) (SParams.mk a1_Kernel a1_Levels a1_Color a1_BlockX a1_BlockY a1_Precincts a1_Order a1_Layers (SMode.mk a1_Mode_Bypass a1_Mode_Restart a1_Mode_Reset a1_Mode_Causal a1_Mode_Symbols) a1_Divide a1_Sync a1_Fence a1_Steps a1_Dead a1_Shift) (SRect.mk a2_X0 a2_Y0 a2_X1 a2_Y1)) i0_0 i0_1 (fun yi0_0 yi0_1 => kn (st_R23_Blocks_0 (SHeader.mk (SRect.mk a0_Area_X0 a0_Area_Y0 a0_Area_X1 a0_Area_Y1) a0_TileW a0_TileH a0_Components) (SParams.mk a1_Kernel a1_Levels a1_Color a1_BlockX a1_BlockY a1_Precincts a1_Order a1_Layers (SMode.mk a1_Mode_Bypass a1_Mode_Restart a1_Mode_Reset a1_Mode_Causal a1_Mode_Symbols) a1_Divide a1_Sync a1_Fence a1_Steps a1_Dead a1_Shift) (SRect.mk a2_X0 a2_Y0 a2_X1 a2_Y1) yi0_0 yi0_1))
  | _ => none
noncomputable def env_R23_Blocks {R : Type} : Env R := ⟨Tryz.prog, callCons 66 c_R01_Reduce (callCons 113 c_R23_Precinct (callCons 114 c_R23_Grid (callCons 116 c_R06_Band callNil))), fun id => bif Nat.beq id 2 then loopAlt shape_R23_Blocks_2 hook_R23_Blocks_2 loopNil else (fun id => bif Nat.beq id 0 then loopAlt shape_R23_Blocks_0 hook_R23_Blocks_0 loopNil else (fun _ _ _ _ _ => none) id) id, Tryz.f73.results.toList, maskTab 72 [(0, 0x38), (1, 0xb8), (2, 0x1b8), (3, 0x201b8), (4, 0x1b8), (5, 0x3b8), (6, 0x7b8), (7, 0x40000007b8), (8, 0x7b8), (9, 0xfb8), (10, 0x1fb8), (11, 0x7b8), (12, 0x40)], maskAt [(1, 6), (2, 4), (4, 5), (5, 32), (6, 10), (8, 78), (10, 15), (12, 31), (14, 36), (16, 75), (18, 41), (20, 45), (22, 50), (24, 81)], noSort⟩
theorem step_R23_Blocks_2_eq {R : Type} (i2_1 : Int) (a0 : SHeader) (a1 : SParams) (a2 gc6 : SRect) (si2_0 si2_2 : Int) (kn : St → Option R) (kx : Nat → St → Option R) (kr : V → Option R) (n : Nat) (i2_0 i2_2 : Int) :
    loopN env_R23_Blocks 2 (loopAt Tryz.f73 1) (st_R23_Blocks_2 i2_1 a0 a1 a2 gc6 si2_0 si2_2) kn kx kr (n + 1) (st_R23_Blocks_2 i2_1 a0 a1 a2 gc6 i2_0 i2_2) =
    step_R23_Blocks_2 i2_1 a0 a1 a2 gc6 i2_0 i2_2 (fun yi2_0 yi2_2 => loopN env_R23_Blocks 2 (loopAt Tryz.f73 1) (st_R23_Blocks_2 i2_1 a0 a1 a2 gc6 si2_0 si2_2) kn kx kr n (st_R23_Blocks_2 i2_1 a0 a1 a2 gc6 yi2_0 yi2_2)) (fun yi2_0 yi2_2 => kn (st_R23_Blocks_2 i2_1 a0 a1 a2 gc6 yi2_0 yi2_2)) := by kernel_rfl
theorem loop_R23_Blocks_2_eq {R : Type} (i2_1 : Int) (a0 : SHeader) (a1 : SParams) (a2 gc6 : SRect) (si2_0 si2_2 : Int) (kn : St → Option R) (kx : Nat → St → Option R) (kr : V → Option R) : ∀ (n : Nat) (i2_0 i2_2 : Int),
    loop_R23_Blocks_2 i2_1 a0 a1 a2 gc6 n i2_0 i2_2 (fun yi2_0 yi2_2 => kn (st_R23_Blocks_2 i2_1 a0 a1 a2 gc6 yi2_0 yi2_2)) = loopN env_R23_Blocks 2 (loopAt Tryz.f73 1) (st_R23_Blocks_2 i2_1 a0 a1 a2 gc6 si2_0 si2_2) kn kx kr n (st_R23_Blocks_2 i2_1 a0 a1 a2 gc6 i2_0 i2_2)
  | 0, _, _ => rfl
  | n + 1, i2_0, i2_2 => by
    rw [step_R23_Blocks_2_eq, loop_R23_Blocks_2]
    congr 1
    funext yi2_0 yi2_2
    exact loop_R23_Blocks_2_eq i2_1 a0 a1 a2 gc6 si2_0 si2_2 kn kx kr n yi2_0 yi2_2
theorem goodl_R23_Blocks_2 {R : Type} {rest} (h : GoodL (R := R) env_R23_Blocks 2 (loopAt Tryz.f73 1) rest) : GoodL (R := R) env_R23_Blocks 2 (loopAt Tryz.f73 1) (loopAlt shape_R23_Blocks_2 hook_R23_Blocks_2 rest) := by
  refine goodL_alt (fun l kn kx kr r h => ?_) h
  unfold hook_R23_Blocks_2 at h
  split at h
  · rename_i i2_0 i2_1 i2_2 a0_Area_X0 a0_Area_Y0 a0_Area_X1 a0_Area_Y1 a0_TileW a0_TileH a0_Components a1_Kernel a1_Levels a1_Color a1_BlockX a1_BlockY a1_Precincts a1_Order a1_Layers a1_Mode_Bypass a1_Mode_Restart a1_Mode_Reset a1_Mode_Causal a1_Mode_Symbols a1_Divide a1_Sync a1_Fence a1_Steps a1_Dead a1_Shift a2_X0 a2_Y0 a2_X1 a2_Y1 gc6_X0 gc6_Y0 gc6_X1 gc6_Y1
    exact ⟨_, (loop_R23_Blocks_2_eq i2_1 (SHeader.mk (SRect.mk a0_Area_X0 a0_Area_Y0 a0_Area_X1 a0_Area_Y1) a0_TileW a0_TileH a0_Components) (SParams.mk a1_Kernel a1_Levels a1_Color a1_BlockX a1_BlockY a1_Precincts a1_Order a1_Layers (SMode.mk a1_Mode_Bypass a1_Mode_Restart a1_Mode_Reset a1_Mode_Causal a1_Mode_Symbols) a1_Divide a1_Sync a1_Fence a1_Steps a1_Dead a1_Shift) (SRect.mk a2_X0 a2_Y0 a2_X1 a2_Y1) (SRect.mk gc6_X0 gc6_Y0 gc6_X1 gc6_Y1) i2_0 i2_2 kn kx kr _ i2_0 i2_2).symm.trans h⟩
  · cases h
theorem step_R23_Blocks_0_eq {R : Type} (a0 : SHeader) (a1 : SParams) (a2 : SRect) (si0_0 si0_1 : Int) (kn : St → Option R) (kx : Nat → St → Option R) (kr : V → Option R) (n : Nat) (i0_0 i0_1 : Int) :
    loopN env_R23_Blocks 0 (loopAt Tryz.f73 0) (st_R23_Blocks_0 a0 a1 a2 si0_0 si0_1) kn kx kr (n + 1) (st_R23_Blocks_0 a0 a1 a2 i0_0 i0_1) =
    step_R23_Blocks_0 a0 a1 a2 i0_0 i0_1 (fun yi0_0 yi0_1 => loopN env_R23_Blocks 0 (loopAt Tryz.f73 0) (st_R23_Blocks_0 a0 a1 a2 si0_0 si0_1) kn kx kr n (st_R23_Blocks_0 a0 a1 a2 yi0_0 yi0_1)) (fun yi0_0 yi0_1 => kn (st_R23_Blocks_0 a0 a1 a2 yi0_0 yi0_1)) := by kernel_rfl
theorem loop_R23_Blocks_0_eq {R : Type} (a0 : SHeader) (a1 : SParams) (a2 : SRect) (si0_0 si0_1 : Int) (kn : St → Option R) (kx : Nat → St → Option R) (kr : V → Option R) : ∀ (n : Nat) (i0_0 i0_1 : Int),
    loop_R23_Blocks_0 a0 a1 a2 n i0_0 i0_1 (fun yi0_0 yi0_1 => kn (st_R23_Blocks_0 a0 a1 a2 yi0_0 yi0_1)) = loopN env_R23_Blocks 0 (loopAt Tryz.f73 0) (st_R23_Blocks_0 a0 a1 a2 si0_0 si0_1) kn kx kr n (st_R23_Blocks_0 a0 a1 a2 i0_0 i0_1)
  | 0, _, _ => rfl
  | n + 1, i0_0, i0_1 => by
    rw [step_R23_Blocks_0_eq, loop_R23_Blocks_0]
    congr 1
    funext yi0_0 yi0_1
    exact loop_R23_Blocks_0_eq a0 a1 a2 si0_0 si0_1 kn kx kr n yi0_0 yi0_1
theorem goodl_R23_Blocks_0 {R : Type} {rest} (h : GoodL (R := R) env_R23_Blocks 0 (loopAt Tryz.f73 0) rest) : GoodL (R := R) env_R23_Blocks 0 (loopAt Tryz.f73 0) (loopAlt shape_R23_Blocks_0 hook_R23_Blocks_0 rest) := by
  refine goodL_alt (fun l kn kx kr r h => ?_) h
  unfold hook_R23_Blocks_0 at h
  split at h
  · rename_i i0_0 i0_1 a0_Area_X0 a0_Area_Y0 a0_Area_X1 a0_Area_Y1 a0_TileW a0_TileH a0_Components a1_Kernel a1_Levels a1_Color a1_BlockX a1_BlockY a1_Precincts a1_Order a1_Layers a1_Mode_Bypass a1_Mode_Restart a1_Mode_Reset a1_Mode_Causal a1_Mode_Symbols a1_Divide a1_Sync a1_Fence a1_Steps a1_Dead a1_Shift a2_X0 a2_Y0 a2_X1 a2_Y1
    exact ⟨_, (loop_R23_Blocks_0_eq (SHeader.mk (SRect.mk a0_Area_X0 a0_Area_Y0 a0_Area_X1 a0_Area_Y1) a0_TileW a0_TileH a0_Components) (SParams.mk a1_Kernel a1_Levels a1_Color a1_BlockX a1_BlockY a1_Precincts a1_Order a1_Layers (SMode.mk a1_Mode_Bypass a1_Mode_Restart a1_Mode_Reset a1_Mode_Causal a1_Mode_Symbols) a1_Divide a1_Sync a1_Fence a1_Steps a1_Dead a1_Shift) (SRect.mk a2_X0 a2_Y0 a2_X1 a2_Y1) i0_0 i0_1 kn kx kr _ i0_0 i0_1).symm.trans h⟩
  · cases h
theorem good_R23_Blocks_0 {R : Type} : GoodLoop (R := R) env_R23_Blocks 0 (loopAt Tryz.f73 0) := goodL_loop (g := loopAlt shape_R23_Blocks_0 hook_R23_Blocks_0 loopNil) (fun _ _ _ _ => rfl) (goodl_R23_Blocks_0 goodL_nil)
theorem good_R23_Blocks_2 {R : Type} : GoodLoop (R := R) env_R23_Blocks 2 (loopAt Tryz.f73 1) := goodL_loop (g := loopAlt shape_R23_Blocks_2 hook_R23_Blocks_2 loopNil) (fun _ _ _ _ => rfl) (goodl_R23_Blocks_2 goodL_nil)
noncomputable def spec_R23_Blocks {R : Type} (a0 : SHeader) (a1 : SParams) (a2 : SRect) (k : V → Option R) : Option R :=
 loop_R23_Blocks_0 a0 a1 a2 (fuel_R23_Blocks_0 (0 : Int) (0 : Int) a0 a1 a2) (0 : Int) (0 : Int) (fun i0_z10 i0_z11 =>
 k (V.int .i64 i0_z10))
abbrev av_R23_Blocks (a0 : SHeader) (a1 : SParams) (a2 : SRect) : List V := [(SHeader.v a0), (SParams.v a1), (SRect.v a2)]
theorem spec_R23_Blocks_eq {R : Type} (a0 : SHeader) (a1 : SParams) (a2 : SRect) (k : V → Option R) : fnK env_R23_Blocks Tryz.f73 (av_R23_Blocks a0 a1 a2) k = spec_R23_Blocks a0 a1 a2 k := by kernel_rfl
theorem ok_R23_Blocks (h_R01_Reduce : G_R01_Reduce) (h_R23_Precinct : G_R23_Precinct) (h_R23_Grid : G_R23_Grid) (h_R06_Band : G_R06_Band) (a0 : SHeader) (a1 : SParams) (a2 : SRect) {v : V} (h : Real (av_R23_Blocks a0 a1 a2) → spec_R23_Blocks a0 a1 a2 some = some v) : FunOK Tryz.prog 73 (av_R23_Blocks a0 a1 a2) v :=
  fn_ok (fn := Tryz.f73) (c := bodyOf Tryz.f73) (E := env_R23_Blocks) ⟨by kernel_rfl, (goodCons h_R01_Reduce (goodCons h_R23_Precinct (goodCons h_R23_Grid (goodCons h_R06_Band goodNil)))), rfl, goodS_no⟩ rfl (by kernel_rfl) (by kernel_rfl) (by kernel_rfl)
  (loopsOK_of _ (by
    have e : loopsOf (bodyOf Tryz.f73) = [(0, loopAt Tryz.f73 0), (2, loopAt Tryz.f73 1)] := by kernel_rfl
    rw [e]
    simp only [List.forall_mem_cons, List.not_mem_nil, false_implies, implies_true, and_true]
    exact ⟨good_R23_Blocks_0, good_R23_Blocks_2⟩))
  (fun hr => (spec_R23_Blocks_eq a0 a1 a2 some).trans (h hr))
theorem mk_R23_Blocks (h_R01_Reduce : G_R01_Reduce) (h_R23_Precinct : G_R23_Precinct) (h_R23_Grid : G_R23_Grid) (h_R06_Band : G_R06_Band) (h : ∀ (a0 : SHeader) (a1 : SParams) (a2 : SRect), pre_R23_Blocks a0 a1 a2 = true → Real (av_R23_Blocks a0 a1 a2) → spec_R23_Blocks a0 a1 a2 some = some (V.int .i64 (m_R23_Blocks a0 a1 a2))) : G_R23_Blocks := goodHook1 fun l hp => by
  unfold hp_R23_Blocks at hp
  split at hp
  · rename_i x0 x1 x2 x3 x4 x5 x6 x7 x8 x9 x10 x11 x12 x13 x14 x15 x16 x17 x18 x19 x20 x21 x22 x23 x24 x25 x26 x27 x28 x29
    exact ok_R23_Blocks h_R01_Reduce h_R23_Precinct h_R23_Grid h_R06_Band (SHeader.mk (SRect.mk x0 x1 x2 x3) x4 x5 x6) (SParams.mk x7 x8 x9 x10 x11 x12 x13 x14 (SMode.mk x15 x16 x17 x18 x19) x20 x21 x22 x23 x24 x25) (SRect.mk x26 x27 x28 x29) fun hr => h (SHeader.mk (SRect.mk x0 x1 x2 x3) x4 x5 x6) (SParams.mk x7 x8 x9 x10 x11 x12 x13 x14 (SMode.mk x15 x16 x17 x18 x19) x20 x21 x22 x23 x24 x25) (SRect.mk x26 x27 x28 x29) hp hr
  · cases hp
end Go.Vm
