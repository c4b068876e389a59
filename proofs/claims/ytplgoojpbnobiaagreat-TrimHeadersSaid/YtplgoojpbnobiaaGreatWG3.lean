import Derived.Test.YtplgoojpbnobiaaGreatWC
set_option linter.unusedVariables false
set_option linter.unusedSimpArgs false
set_option maxRecDepth 100000
noncomputable section
namespace Go.Vm
open Go.Proofs
noncomputable def fuel_R23_SameParams_0 (i0_0 : Int) (a0 a1 : SParams) : Nat :=
 let x20 : Int := (((List.length a0.Precincts) : Nat) : Int)
 Int.toNat (x20 - i0_0) + 1
noncomputable def step_R23_SameParams_0 {R : Type} (a0 a1 : SParams) (i0_0 : Int) (again : Int → Option R) (kn : Int → Option R) (kr : V → Option R) : Option R :=
 let x20 : Int := (((List.length a0.Precincts) : Nat) : Int)
 bif (decide (i0_0 < x20)) then
 bif (inR i0_0 (List.length a0.Precincts)) then
 let w21 : List V := (List.getD a0.Precincts (Int.toNat i0_0) [])
 let s22 : SPoint := (SPoint.of w21)
 bif (inR i0_0 (List.length a1.Precincts)) then
 let w23 : List V := (List.getD a1.Precincts (Int.toNat i0_0) [])
 let s24 : SPoint := (SPoint.of w23)
 let b25 : Bool := (!((s22.X == s24.X) && ((s22.Y == s24.Y) && true)))
 bif b25 then
 kr (V.bool false)
 else
 let x26 : Int := (IntKind.wrap .i64 (i0_0 + (1 : Int)))
 again x26
 else none
 else none
 else
 kn i0_0
noncomputable def loop_R23_SameParams_0 {R : Type} (a0 a1 : SParams) : Nat → Int → (Int → Option R) → (V → Option R) → Option R
  | 0, _, _, _ => none
  | n + 1, i0_0, kn, kr => step_R23_SameParams_0 a0 a1 i0_0 (fun yi0_0 => loop_R23_SameParams_0 a0 a1 n yi0_0 kn kr) kn kr
noncomputable def shape_R23_SameParams_0 : ST := ⟨.undef :: .undef :: .ptr 0 0 0 :: .ptr 1 0 0 :: .undef :: .int .i64 :: unds 144 [], [(0, .var SParams.sh false SParams.ts), (1, .var SParams.sh false SParams.ts)], 112⟩
noncomputable def st_R23_SameParams_0 (a0 a1 : SParams) (i0_0 : Int) : St := shape_R23_SameParams_0.put [.i i0_0, .i a0.Kernel, .i a0.Levels, .i a0.Color, .i a0.BlockX, .i a0.BlockY, .r a0.Precincts, .i a0.Order, .i a0.Layers, .b a0.Mode.Bypass, .b a0.Mode.Restart, .b a0.Mode.Reset, .b a0.Mode.Causal, .b a0.Mode.Symbols, .b a0.Divide, .b a0.Sync, .b a0.Fence, .r a0.Steps, .i a0.Dead, .i a0.Shift, .i a1.Kernel, .i a1.Levels, .i a1.Color, .i a1.BlockX, .i a1.BlockY, .r a1.Precincts, .i a1.Order, .i a1.Layers, .b a1.Mode.Bypass, .b a1.Mode.Restart, .b a1.Mode.Reset, .b a1.Mode.Causal, .b a1.Mode.Symbols, .b a1.Divide, .b a1.Sync, .b a1.Fence, .r a1.Steps, .i a1.Dead, .i a1.Shift]
noncomputable def hook_R23_SameParams_0 {R : Type} : LoopG R := fun l kn _ kr => match l with
  | .i i0_0 :: .i a0_Kernel :: .i a0_Levels :: .i a0_Color :: .i a0_BlockX :: .i a0_BlockY :: .r a0_Precincts :: .i a0_Order :: .i a0_Layers :: .b a0_Mode_Bypass :: .b a0_Mode_Restart :: .b a0_Mode_Reset :: .b a0_Mode_Causal :: .b a0_Mode_Symbols :: .b a0_Divide :: .b a0_Sync :: .b a0_Fence :: .r a0_Steps :: .i a0_Dead :: .i a0_Shift :: .i a1_Kernel :: .i a1_Levels :: .i a1_Color :: .i a1_BlockX :: .i a1_BlockY :: .r a1_Precincts :: .i a1_Order :: .i a1_Layers :: .b a1_Mode_Bypass :: .b a1_Mode_Restart :: .b a1_Mode_Reset :: .b a1_Mode_Causal :: .b a1_Mode_Symbols :: .b a1_Divide :: .b a1_Sync :: .b a1_Fence :: .r a1_Steps :: .i a1_Dead :: .i a1_Shift :: [] => loop_R23_SameParams_0 (SParams.mk a0_Kernel a0_Levels a0_Color a0_BlockX a0_BlockY a0_Precincts a0_Order a0_Layers (SMode.mk a0_Mode_Bypass a0_Mode_Restart a0_Mode_Reset a0_Mode_Causal a0_Mode_Symbols) a0_Divide a0_Sync a0_Fence a0_Steps a0_Dead a0_Shift) (SParams.mk a1_Kernel a1_Levels a1_Color a1_BlockX a1_BlockY a1_Precincts a1_Order a1_Layers (SMode.mk a1_Mode_Bypass a1_Mode_Restart a1_Mode_Reset a1_Mode_Causal a1_Mode_Symbols) a1_Divide a1_Sync a1_Fence a1_Steps a1_Dead a1_Shift) (fuel_R23_SameParams_0 i0_0 (SParams.mk a0_Kernel a0_Levels a0_Color a0_BlockX a0_BlockY a0_Precincts a0_Order a0_Layers (SMode.mk a0_Mode_Bypass a0_Mode_Restart a0_Mode_Reset a0_Mode_Causal a0_Mode_Symbols) a0_Divide a0_Sync a0_Fence a0_Steps a0_Dead a0_Shift) (SParams.mk a1_Kernel a1_Levels a1_Color a1_BlockX a1_BlockY a1_Precincts a1_Order a1_Layers (SMode.mk a1_Mode_Bypass a1_Mode_Restart a1_Mode_Reset a1_Mode_Causal a1_Mode_Symbols) a1_Divide a1_Sync a1_Fence a1_Steps a1_Dead a1_Shift)) i0_0 (fun yi0_0 => kn (st_R23_SameParams_0 (SParams.mk a0_Kernel a0_Levels a0_Color a0_BlockX a0_BlockY a0_Precincts a0_Order a0_Layers (SMode.mk a0_Mode_Bypass a0_Mode_Restart a0_Mode_Reset a0_Mode_Causal a0_Mode_Symbols) a0_Divide a0_Sync a0_Fence a0_Steps a0_Dead a0_Shift) (SParams.mk a1_Kernel a1_Levels a1_Color a1_BlockX a1_BlockY a1_Precincts a1_Order a1_Layers (SMode.mk a1_Mode_Bypass a1_Mode_Restart a1_Mode_Reset a1_Mode_Causal a1_Mode_Symbols) a1_Divide a1_Sync a1_Fence a1_Steps a1_Dead a1_Shift) yi0_0)) kr
  | _ => none
noncomputable def fuel_R23_SameParams_2 (i2_0 : Int) (a0 a1 : SParams) : Nat :=
 let x28 : Int := (((List.length a0.Steps) : Nat) : Int)
 Int.toNat (x28 - i2_0) + 1
noncomputable def step_R23_SameParams_2 {R : Type} (a0 a1 : SParams) (i2_0 : Int) (again : Int → Option R) (kn : Int → Option R) (kr : V → Option R) : Option R :=
 let x28 : Int := (((List.length a0.Steps) : Nat) : Int)
 bif (decide (i2_0 < x28)) then
 bif (inR i2_0 (List.length a0.Steps)) then
 let w29 : List V := (List.getD a0.Steps (Int.toNat i2_0) [])
 let x30 : Int := (V.toInt (List.getD w29 0 V.undef))
 bif (inR i2_0 (List.length a1.Steps)) then
 let w31 : List V := (List.getD a1.Steps (Int.toNat i2_0) [])
 let x32 : Int := (V.toInt (List.getD w31 0 V.undef))
 bif (x30 != x32) then
 kr (V.bool false)
 else
 let x33 : Int := (IntKind.wrap .i64 (i2_0 + (1 : Int)))
 again x33
 else none
 else none
 else
 kn i2_0
noncomputable def loop_R23_SameParams_2 {R : Type} (a0 a1 : SParams) : Nat → Int → (Int → Option R) → (V → Option R) → Option R
  | 0, _, _, _ => none
  | n + 1, i2_0, kn, kr => step_R23_SameParams_2 a0 a1 i2_0 (fun yi2_0 => loop_R23_SameParams_2 a0 a1 n yi2_0 kn kr) kn kr
noncomputable def shape_R23_SameParams_2 : ST := ⟨.undef :: .undef :: .ptr 0 0 0 :: .ptr 1 0 0 :: .undef :: .undef :: .int .i64 :: unds 143 [], [(0, .var SParams.sh false SParams.ts), (1, .var SParams.sh false SParams.ts)], 137⟩
noncomputable def st_R23_SameParams_2 (a0 a1 : SParams) (i2_0 : Int) : St := shape_R23_SameParams_2.put [.i i2_0, .i a0.Kernel, .i a0.Levels, .i a0.Color, .i a0.BlockX, .i a0.BlockY, .r a0.Precincts, .i a0.Order, .i a0.Layers, .b a0.Mode.Bypass, .b a0.Mode.Restart, .b a0.Mode.Reset, .b a0.Mode.Causal, .b a0.Mode.Symbols, .b a0.Divide, .b a0.Sync, .b a0.Fence, .r a0.Steps, .i a0.Dead, .i a0.Shift, .i a1.Kernel, .i a1.Levels, .i a1.Color, .i a1.BlockX, .i a1.BlockY, .r a1.Precincts, .i a1.Order, .i a1.Layers, .b a1.Mode.Bypass, .b a1.Mode.Restart, .b a1.Mode.Reset, .b a1.Mode.Causal, .b a1.Mode.Symbols, .b a1.Divide, .b a1.Sync, .b a1.Fence, .r a1.Steps, .i a1.Dead, .i a1.Shift]
noncomputable def hook_R23_SameParams_2 {R : Type} : LoopG R := fun l kn _ kr => match l with
  | .i i2_0 :: .i a0_Kernel :: .i a0_Levels :: .i a0_Color :: .i a0_BlockX :: .i a0_BlockY :: .r a0_Precincts :: .i a0_Order :: .i a0_Layers :: .b a0_Mode_Bypass :: .b a0_Mode_Restart :: .b a0_Mode_Reset :: .b a0_Mode_Causal :: .b a0_Mode_Symbols :: .b a0_Divide :: .b a0_Sync :: .b a0_Fence :: .r a0_Steps :: .i a0_Dead :: .i a0_Shift :: .i a1_Kernel :: .i a1_Levels :: .i a1_Color :: .i a1_BlockX :: .i a1_BlockY :: .r a1_Precincts :: .i a1_Order :: .i a1_Layers :: .b a1_Mode_Bypass :: .b a1_Mode_Restart :: .b a1_Mode_Reset :: .b a1_Mode_Causal :: .b a1_Mode_Symbols :: .b a1_Divide :: .b a1_Sync :: .b a1_Fence :: .r a1_Steps :: .i a1_Dead :: .i a1_Shift :: [] => loop_R23_SameParams_2 (SParams.mk a0_Kernel a0_Levels a0_Color a0_BlockX a0_BlockY a0_Precincts a0_Order a0_Layers (SMode.mk a0_Mode_Bypass a0_Mode_Restart a0_Mode_Reset a0_Mode_Causal a0_Mode_Symbols) a0_Divide a0_Sync a0_Fence a0_Steps a0_Dead a0_Shift) (SParams.mk a1_Kernel a1_Levels a1_Color a1_BlockX a1_BlockY a1_Precincts a1_Order a1_Layers (SMode.mk a1_Mode_Bypass a1_Mode_Restart a1_Mode_Reset a1_Mode_Causal a1_Mode_Symbols) a1_Divide a1_Sync a1_Fence a1_Steps a1_Dead a1_Shift) (fuel_R23_SameParams_2 i2_0 (SParams.mk a0_Kernel a0_Levels a0_Color a0_BlockX a0_BlockY a0_Precincts a0_Order a0_Layers (SMode.mk a0_Mode_Bypass a0_Mode_Restart a0_Mode_Reset a0_Mode_Causal a0_Mode_Symbols) a0_Divide a0_Sync a0_Fence a0_Steps a0_Dead a0_Shift) (SParams.mk a1_Kernel a1_Levels a1_Color a1_BlockX a1_BlockY a1_Precincts a1_Order a1_Layers (SMode.mk a1_Mode_Bypass a1_Mode_Restart a1_Mode_Reset a1_Mode_Causal a1_Mode_Symbols) a1_Divide a1_Sync a1_Fence a1_Steps a1_Dead a1_Shift)) i2_0 (fun yi2_0 => kn (st_R23_SameParams_2 (SParams.mk a0_Kernel a0_Levels a0_Color a0_BlockX a0_BlockY a0_Precincts a0_Order a0_Layers (SMode.mk a0_Mode_Bypass a0_Mode_Restart a0_Mode_Reset a0_Mode_Causal a0_Mode_Symbols) a0_Divide a0_Sync a0_Fence a0_Steps a0_Dead a0_Shift) (SParams.mk a1_Kernel a1_Levels a1_Color a1_BlockX a1_BlockY a1_Precincts a1_Order a1_Layers (SMode.mk a1_Mode_Bypass a1_Mode_Restart a1_Mode_Reset a1_Mode_Causal a1_Mode_Symbols) a1_Divide a1_Sync a1_Fence a1_Steps a1_Dead a1_Shift) yi2_0)) kr
  | _ => none
noncomputable def env_R23_SameParams {R : Type} : Env R := ⟨Tryz.prog, callNil, fun id => bif Nat.beq id 0 then loopAlt shape_R23_SameParams_0 hook_R23_SameParams_0 loopNil else (fun id => bif Nat.beq id 2 then loopAlt shape_R23_SameParams_2 hook_R23_SameParams_2 loopNil else (fun _ _ _ _ _ => none) id) id, Tryz.f22.results.toList, maskTab 150 [(0, 0x1fcfe7cf9f3e7cf9f3e7cf9f3e00c), (1, 0x2000000000000000000000000000c), (2, 0x10), (3, 0x2c), (4, 0x40000000000000000000000000002c), (5, 0x2c), (6, 0x80000000000000000000000000000002c), (7, 0x10), (8, 0x4c), (9, 0x1000000000000000000000000000000004c), (10, 0x4c), (11, 0x2000000000000000000000000000000000004c), (12, 0x10), (13, 0x10)], maskAt [(1, 112), (2, 3), (4, 110), (5, 137), (6, 111), (8, 116), (10, 133), (12, 121), (14, 132), (16, 136), (18, 141), (20, 158), (22, 146), (24, 157), (26, 161)], noSort⟩
theorem step_R23_SameParams_0_eq {R : Type} (a0 a1 : SParams) (si0_0 : Int) (kn : St → Option R) (kx : Nat → St → Option R) (kr : V → Option R) (n : Nat) (i0_0 : Int) :
    loopN env_R23_SameParams 0 (loopAt Tryz.f22 0) (st_R23_SameParams_0 a0 a1 si0_0) kn kx kr (n + 1) (st_R23_SameParams_0 a0 a1 i0_0) =
    step_R23_SameParams_0 a0 a1 i0_0 (fun yi0_0 => loopN env_R23_SameParams 0 (loopAt Tryz.f22 0) (st_R23_SameParams_0 a0 a1 si0_0) kn kx kr n (st_R23_SameParams_0 a0 a1 yi0_0)) (fun yi0_0 => kn (st_R23_SameParams_0 a0 a1 yi0_0)) kr := by kernel_rfl
theorem loop_R23_SameParams_0_eq {R : Type} (a0 a1 : SParams) (si0_0 : Int) (kn : St → Option R) (kx : Nat → St → Option R) (kr : V → Option R) : ∀ (n : Nat) (i0_0 : Int),
    loop_R23_SameParams_0 a0 a1 n i0_0 (fun yi0_0 => kn (st_R23_SameParams_0 a0 a1 yi0_0)) kr = loopN env_R23_SameParams 0 (loopAt Tryz.f22 0) (st_R23_SameParams_0 a0 a1 si0_0) kn kx kr n (st_R23_SameParams_0 a0 a1 i0_0)
  | 0, _ => rfl
  | n + 1, i0_0 => by
    rw [step_R23_SameParams_0_eq, loop_R23_SameParams_0]
    congr 1
    funext yi0_0
    exact loop_R23_SameParams_0_eq a0 a1 si0_0 kn kx kr n yi0_0
theorem goodl_R23_SameParams_0 {R : Type} {rest} (h : GoodL (R := R) env_R23_SameParams 0 (loopAt Tryz.f22 0) rest) : GoodL (R := R) env_R23_SameParams 0 (loopAt Tryz.f22 0) (loopAlt shape_R23_SameParams_0 hook_R23_SameParams_0 rest) := by
  refine goodL_alt (fun l kn kx kr r h => ?_) h
  unfold hook_R23_SameParams_0 at h
  split at h
  · rename_i i0_0 a0_Kernel a0_Levels a0_Color a0_BlockX a0_BlockY a0_Precincts a0_Order a0_Layers a0_Mode_Bypass a0_Mode_Restart a0_Mode_Reset a0_Mode_Causal a0_Mode_Symbols a0_Divide a0_Sync a0_Fence a0_Steps a0_Dead a0_Shift a1_Kernel a1_Levels a1_Color a1_BlockX a1_BlockY a1_Precincts a1_Order a1_Layers a1_Mode_Bypass a1_Mode_Restart a1_Mode_Reset a1_Mode_Causal a1_Mode_Symbols a1_Divide a1_Sync a1_Fence a1_Steps a1_Dead a1_Shift
    exact ⟨_, (loop_R23_SameParams_0_eq (SParams.mk a0_Kernel a0_Levels a0_Color a0_BlockX a0_BlockY a0_Precincts a0_Order a0_Layers (SMode.mk a0_Mode_Bypass a0_Mode_Restart a0_Mode_Reset a0_Mode_Causal a0_Mode_Symbols) a0_Divide a0_Sync a0_Fence a0_Steps a0_Dead a0_Shift) (SParams.mk a1_Kernel a1_Levels a1_Color a1_BlockX a1_BlockY a1_Precincts a1_Order a1_Layers (SMode.mk a1_Mode_Bypass a1_Mode_Restart a1_Mode_Reset a1_Mode_Causal a1_Mode_Symbols) a1_Divide a1_Sync a1_Fence a1_Steps a1_Dead a1_Shift) i0_0 kn kx kr _ i0_0).symm.trans h⟩
  · cases h
theorem step_R23_SameParams_2_eq {R : Type} (a0 a1 : SParams) (si2_0 : Int) (kn : St → Option R) (kx : Nat → St → Option R) (kr : V → Option R) (n : Nat) (i2_0 : Int) :
    loopN env_R23_SameParams 2 (loopAt Tryz.f22 1) (st_R23_SameParams_2 a0 a1 si2_0) kn kx kr (n + 1) (st_R23_SameParams_2 a0 a1 i2_0) =
    step_R23_SameParams_2 a0 a1 i2_0 (fun yi2_0 => loopN env_R23_SameParams 2 (loopAt Tryz.f22 1) (st_R23_SameParams_2 a0 a1 si2_0) kn kx kr n (st_R23_SameParams_2 a0 a1 yi2_0)) (fun yi2_0 => kn (st_R23_SameParams_2 a0 a1 yi2_0)) kr := by kernel_rfl
theorem loop_R23_SameParams_2_eq {R : Type} (a0 a1 : SParams) (si2_0 : Int) (kn : St → Option R) (kx : Nat → St → Option R) (kr : V → Option R) : ∀ (n : Nat) (i2_0 : Int),
    loop_R23_SameParams_2 a0 a1 n i2_0 (fun yi2_0 => kn (st_R23_SameParams_2 a0 a1 yi2_0)) kr = loopN env_R23_SameParams 2 (loopAt Tryz.f22 1) (st_R23_SameParams_2 a0 a1 si2_0) kn kx kr n (st_R23_SameParams_2 a0 a1 i2_0)
  | 0, _ => rfl
  | n + 1, i2_0 => by
    rw [step_R23_SameParams_2_eq, loop_R23_SameParams_2]
    congr 1
    funext yi2_0
    exact loop_R23_SameParams_2_eq a0 a1 si2_0 kn kx kr n yi2_0
theorem goodl_R23_SameParams_2 {R : Type} {rest} (h : GoodL (R := R) env_R23_SameParams 2 (loopAt Tryz.f22 1) rest) : GoodL (R := R) env_R23_SameParams 2 (loopAt Tryz.f22 1) (loopAlt shape_R23_SameParams_2 hook_R23_SameParams_2 rest) := by
  refine goodL_alt (fun l kn kx kr r h => ?_) h
  unfold hook_R23_SameParams_2 at h
  split at h
  · rename_i i2_0 a0_Kernel a0_Levels a0_Color a0_BlockX a0_BlockY a0_Precincts a0_Order a0_Layers a0_Mode_Bypass a0_Mode_Restart a0_Mode_Reset a0_Mode_Causal a0_Mode_Symbols a0_Divide a0_Sync a0_Fence a0_Steps a0_Dead a0_Shift a1_Kernel a1_Levels a1_Color a1_BlockX a1_BlockY a1_Precincts a1_Order a1_Layers a1_Mode_Bypass a1_Mode_Restart a1_Mode_Reset a1_Mode_Causal a1_Mode_Symbols a1_Divide a1_Sync a1_Fence a1_Steps a1_Dead a1_Shift
    exact ⟨_, (loop_R23_SameParams_2_eq (SParams.mk a0_Kernel a0_Levels a0_Color a0_BlockX a0_BlockY a0_Precincts a0_Order a0_Layers (SMode.mk a0_Mode_Bypass a0_Mode_Restart a0_Mode_Reset a0_Mode_Causal a0_Mode_Symbols) a0_Divide a0_Sync a0_Fence a0_Steps a0_Dead a0_Shift) (SParams.mk a1_Kernel a1_Levels a1_Color a1_BlockX a1_BlockY a1_Precincts a1_Order a1_Layers (SMode.mk a1_Mode_Bypass a1_Mode_Restart a1_Mode_Reset a1_Mode_Causal a1_Mode_Symbols) a1_Divide a1_Sync a1_Fence a1_Steps a1_Dead a1_Shift) i2_0 kn kx kr _ i2_0).symm.trans h⟩
  · cases h
theorem good_R23_SameParams_0 {R : Type} : GoodLoop (R := R) env_R23_SameParams 0 (loopAt Tryz.f22 0) := goodL_loop (g := loopAlt shape_R23_SameParams_0 hook_R23_SameParams_0 loopNil) (fun _ _ _ _ => rfl) (goodl_R23_SameParams_0 goodL_nil)
theorem good_R23_SameParams_2 {R : Type} : GoodLoop (R := R) env_R23_SameParams 2 (loopAt Tryz.f22 1) := goodL_loop (g := loopAlt shape_R23_SameParams_2 hook_R23_SameParams_2 loopNil) (fun _ _ _ _ => rfl) (goodl_R23_SameParams_2 goodL_nil)
noncomputable def spec_R23_SameParams {R : Type} (a0 a1 : SParams) (k : V → Option R) : Option R :=
 let b1 : Bool := (bif (a0.Kernel != a1.Kernel) then true else (a0.Levels != a1.Levels))
 let b2 : Bool := (bif b1 then true else (a0.Color != a1.Color))
 let b3 : Bool := (bif b2 then true else (a0.BlockX != a1.BlockX))
 let b4 : Bool := (bif b3 then true else (a0.BlockY != a1.BlockY))
 let b5 : Bool := (bif b4 then true else (a0.Order != a1.Order))
 let b6 : Bool := (bif b5 then true else (a0.Layers != a1.Layers))
 let b7 : Bool := (!((a0.Mode.Bypass == a1.Mode.Bypass) && ((a0.Mode.Restart == a1.Mode.Restart) && ((a0.Mode.Reset == a1.Mode.Reset) && ((a0.Mode.Causal == a1.Mode.Causal) && ((a0.Mode.Symbols == a1.Mode.Symbols) && true))))))
 let b8 : Bool := (bif b6 then true else b7)
 let b9 : Bool := (!(a0.Divide == a1.Divide))
 let b10 : Bool := (bif b8 then true else b9)
 let b11 : Bool := (bif b10 then true else (!(a0.Sync == a1.Sync)))
 let b12 : Bool := (!(a0.Fence == a1.Fence))
 let b13 : Bool := (bif b11 then true else b12)
 let b14 : Bool := (bif b13 then true else (a0.Dead != a1.Dead))
 let b15 : Bool := (bif b14 then true else (a0.Shift != a1.Shift))
 bif (b15 == false) then
 let x16 : Int := (((List.length a0.Precincts) : Nat) : Int)
 let x17 : Int := (((List.length a1.Precincts) : Nat) : Int)
 bif ((x16 != x17) == false) then
 let x18 : Int := (((List.length a0.Steps) : Nat) : Int)
 let x19 : Int := (((List.length a1.Steps) : Nat) : Int)
 bif (x18 != x19) then
 k (V.bool false)
 else
 loop_R23_SameParams_0 a0 a1 (fuel_R23_SameParams_0 (0 : Int) a0 a1) (0 : Int) (fun i0_z27 =>
 loop_R23_SameParams_2 a0 a1 (fuel_R23_SameParams_2 (0 : Int) a0 a1) (0 : Int) (fun i2_z34 =>
 k (V.bool true)) k) k
 else
 k (V.bool false)
 else
 k (V.bool false)
abbrev av_R23_SameParams (a0 a1 : SParams) : List V := [(SParams.v a0), (SParams.v a1)]
theorem spec_R23_SameParams_eq {R : Type} (a0 a1 : SParams) (k : V → Option R) : fnK env_R23_SameParams Tryz.f22 (av_R23_SameParams a0 a1) k = spec_R23_SameParams a0 a1 k := by kernel_rfl
theorem ok_R23_SameParams (a0 a1 : SParams) {v : V} (h : Real (av_R23_SameParams a0 a1) → spec_R23_SameParams a0 a1 some = some v) : FunOK Tryz.prog 22 (av_R23_SameParams a0 a1) v :=
  fn_ok (fn := Tryz.f22) (c := bodyOf Tryz.f22) (E := env_R23_SameParams) ⟨by kernel_rfl, goodNil, rfl, goodS_no⟩ rfl (by kernel_rfl) (by kernel_rfl) (by kernel_rfl)
  (loopsOK_of _ (by
    have e : loopsOf (bodyOf Tryz.f22) = [(0, loopAt Tryz.f22 0), (2, loopAt Tryz.f22 1)] := by kernel_rfl
    rw [e]
    simp only [List.forall_mem_cons, List.not_mem_nil, false_implies, implies_true, and_true]
    exact ⟨good_R23_SameParams_0, good_R23_SameParams_2⟩))
  (fun hr => (spec_R23_SameParams_eq a0 a1 some).trans (h hr))
theorem mk_R23_SameParams (h : ∀ (a0 a1 : SParams), pre_R23_SameParams a0 a1 = true → Real (av_R23_SameParams a0 a1) → spec_R23_SameParams a0 a1 some = some (V.bool (m_R23_SameParams a0 a1))) : G_R23_SameParams := goodHook1 fun l hp => by
  unfold hp_R23_SameParams at hp
  split at hp
  · rename_i x0 x1 x2 x3 x4 x5 x6 x7 x8 x9 x10 x11 x12 x13 x14 x15 x16 x17 x18 x19 x20 x21 x22 x23 x24 x25 x26 x27 x28 x29 x30 x31 x32 x33 x34 x35 x36 x37
    exact ok_R23_SameParams (SParams.mk x0 x1 x2 x3 x4 x5 x6 x7 (SMode.mk x8 x9 x10 x11 x12) x13 x14 x15 x16 x17 x18) (SParams.mk x19 x20 x21 x22 x23 x24 x25 x26 (SMode.mk x27 x28 x29 x30 x31) x32 x33 x34 x35 x36 x37) fun hr => h (SParams.mk x0 x1 x2 x3 x4 x5 x6 x7 (SMode.mk x8 x9 x10 x11 x12) x13 x14 x15 x16 x17 x18) (SParams.mk x19 x20 x21 x22 x23 x24 x25 x26 (SMode.mk x27 x28 x29 x30 x31) x32 x33 x34 x35 x36 x37) hp hr
  · cases hp
noncomputable def env_R23_Same {R : Type} : Env R := ⟨Tryz.prog, callCons 21 c_R23_SameHeader (callCons 22 c_R23_SameParams callNil), fun _ _ _ _ _ => none, Tryz.f8.results.toList, maskTab 16 [(0, 0xf0), (1, 0x300)], maskAt [(2, 6)], noSort⟩
noncomputable def spec_R23_Same {R : Type} (a0 a1 : SHeader) (a2 a3 : SParams) (k : V → Option R) : Option R :=
 bif (pre_R23_SameHeader a0 a1) then
 let c1 : Bool := (m_R23_SameHeader a0 a1)
 bif (pre_R23_SameParams a2 a3) then
 let c2 : Bool := (m_R23_SameParams a2 a3)
 k (V.tup [(V.bool c1), (V.bool c2)])
 else none
 else none
abbrev av_R23_Same (a0 a1 : SHeader) (a2 a3 : SParams) : List V := [(SHeader.v a0), (SHeader.v a1), (SParams.v a2), (SParams.v a3)]
theorem spec_R23_Same_eq {R : Type} (a0 a1 : SHeader) (a2 a3 : SParams) (k : V → Option R) : fnK env_R23_Same Tryz.f8 (av_R23_Same a0 a1 a2 a3) k = spec_R23_Same a0 a1 a2 a3 k := by kernel_rfl
theorem ok_R23_Same (h_R23_SameHeader : G_R23_SameHeader) (h_R23_SameParams : G_R23_SameParams) (a0 a1 : SHeader) (a2 a3 : SParams) {v : V} (h : Real (av_R23_Same a0 a1 a2 a3) → spec_R23_Same a0 a1 a2 a3 some = some v) : FunOK Tryz.prog 8 (av_R23_Same a0 a1 a2 a3) v :=
  fn_ok (fn := Tryz.f8) (c := bodyOf Tryz.f8) (E := env_R23_Same) ⟨by kernel_rfl, (goodCons h_R23_SameHeader (goodCons h_R23_SameParams goodNil)), rfl, goodS_no⟩ rfl (by kernel_rfl) (by kernel_rfl) (by kernel_rfl)
  (loopsOK_of _ (by
    have e : loopsOf (bodyOf Tryz.f8) = [] := by kernel_rfl
    rw [e]
    intro p hp; cases hp))
  (fun hr => (spec_R23_Same_eq a0 a1 a2 a3 some).trans (h hr))
theorem mk_R23_Same (h_R23_SameHeader : G_R23_SameHeader) (h_R23_SameParams : G_R23_SameParams) (h : ∀ (a0 a1 : SHeader) (a2 a3 : SParams), pre_R23_Same a0 a1 a2 a3 = true → Real (av_R23_Same a0 a1 a2 a3) → spec_R23_Same a0 a1 a2 a3 some = some (V.tup [(V.bool (m_R23_Same a0 a1 a2 a3).1), (V.bool (m_R23_Same a0 a1 a2 a3).2)])) : G_R23_Same := goodHook1 fun l hp => by
  unfold hp_R23_Same at hp
  split at hp
  · rename_i x0 x1 x2 x3 x4 x5 x6 x7 x8 x9 x10 x11 x12 x13 x14 x15 x16 x17 x18 x19 x20 x21 x22 x23 x24 x25 x26 x27 x28 x29 x30 x31 x32 x33 x34 x35 x36 x37 x38 x39 x40 x41 x42 x43 x44 x45 x46 x47 x48 x49 x50 x51
    exact ok_R23_Same h_R23_SameHeader h_R23_SameParams (SHeader.mk (SRect.mk x0 x1 x2 x3) x4 x5 x6) (SHeader.mk (SRect.mk x7 x8 x9 x10) x11 x12 x13) (SParams.mk x14 x15 x16 x17 x18 x19 x20 x21 (SMode.mk x22 x23 x24 x25 x26) x27 x28 x29 x30 x31 x32) (SParams.mk x33 x34 x35 x36 x37 x38 x39 x40 (SMode.mk x41 x42 x43 x44 x45) x46 x47 x48 x49 x50 x51) fun hr => h (SHeader.mk (SRect.mk x0 x1 x2 x3) x4 x5 x6) (SHeader.mk (SRect.mk x7 x8 x9 x10) x11 x12 x13) (SParams.mk x14 x15 x16 x17 x18 x19 x20 x21 (SMode.mk x22 x23 x24 x25 x26) x27 x28 x29 x30 x31 x32) (SParams.mk x33 x34 x35 x36 x37 x38 x39 x40 (SMode.mk x41 x42 x43 x44 x45) x46 x47 x48 x49 x50 x51) hp hr
  · cases hp
theorem au_R23_Same (a0 a1 : SHeader) (a2 a3 : SParams) : pre_R23_Same a0 a1 a2 a3 = true → spec_R23_Same a0 a1 a2 a3 some = some ((fun (m : Bool × Bool) => (V.tup [(V.bool m.1), (V.bool m.2)])) (m_R23_Same a0 a1 a2 a3)) := by
  repeat' (first | exact fun _ => rfl | exact fun h => absurd h (by decide) | refine bif_p (v := (fun (m : Bool × Bool) => (V.tup [(V.bool m.1), (V.bool m.2)]))) ?_ ?_)
theorem good_R23_Same_of (h_R23_SameHeader : G_R23_SameHeader) (h_R23_SameParams : G_R23_SameParams) : G_R23_Same := mk_R23_Same h_R23_SameHeader h_R23_SameParams (fun _ _ _ _ hp _ => au_R23_Same _ _ _ _ hp)
noncomputable def env_L43_TrimHeaders {R : Type} : Env R := ⟨Tryz.prog, callCons 5 c_L43_exampleHolds (callCons 6 c_trim_Header (callCons 7 c_R43_Header (callCons 8 c_R23_Same callNil))), fun _ _ _ _ _ => none, Tryz.f3.results.toList, maskTab 45 [(0, 0x90000000006), (1, 0x90000004006), (2, 0x10), (3, 0x90000000066), (4, 0x900000001e0), (5, 0x90000000340), (6, 0x10)], maskAt [(2, 2), (4, 6), (6, 8), (8, 17), (10, 26), (12, 36)], noSort⟩
noncomputable def spec_L43_TrimHeaders {R : Type} (a0 : SHeader) (a1 : Int) (k : V → Option R) : Option R :=
 let x1 : Int := (((List.length a0.Components) : Nat) : Int)
 let b2 : Bool := (decide (x1 > (20 : Int)))
 bif b2 then
 let c3 : Bool := m_L43_exampleHolds
 k (V.bool c3)
 else
 bif (pre_trim_Header a0 a1) then
 let c4 : SHeader × Int := (m_trim_Header a0 a1)
 bif (pre_R43_Header a0 a1) then
 let c5 : SHeader × Int := (m_R43_Header a0 a1)
 bif (pre_R23_Same c4.1 c5.1 (SParams.mk (0 : Int) (0 : Int) (0 : Int) (0 : Int) (0 : Int) [] (0 : Int) (0 : Int) (SMode.mk false false false false false) false false false [] (0 : Int) (0 : Int)) (SParams.mk (0 : Int) (0 : Int) (0 : Int) (0 : Int) (0 : Int) [] (0 : Int) (0 : Int) (SMode.mk false false false false false) false false false [] (0 : Int) (0 : Int))) then
 let c6 : Bool × Bool := (m_R23_Same c4.1 c5.1 (SParams.mk (0 : Int) (0 : Int) (0 : Int) (0 : Int) (0 : Int) [] (0 : Int) (0 : Int) (SMode.mk false false false false false) false false false [] (0 : Int) (0 : Int)) (SParams.mk (0 : Int) (0 : Int) (0 : Int) (0 : Int) (0 : Int) [] (0 : Int) (0 : Int) (SMode.mk false false false false false) false false false [] (0 : Int) (0 : Int)))
 let b7 : Bool := (bif (c4.2 == c5.2) then c6.1 else false)
 bif (b7 == true) then
 let c8 : Bool := m_L43_exampleHolds
 k (V.bool c8)
 else
 k (V.bool false)
 else none
 else none
 else none
abbrev av_L43_TrimHeaders (a0 : SHeader) (a1 : Int) : List V := [(SHeader.v a0), (V.int .i64 a1)]
theorem spec_L43_TrimHeaders_eq {R : Type} (a0 : SHeader) (a1 : Int) (k : V → Option R) : fnK env_L43_TrimHeaders Tryz.f3 (av_L43_TrimHeaders a0 a1) k = spec_L43_TrimHeaders a0 a1 k := by kernel_rfl
theorem ok_L43_TrimHeaders (h_L43_exampleHolds : G_L43_exampleHolds) (h_trim_Header : G_trim_Header) (h_R43_Header : G_R43_Header) (h_R23_Same : G_R23_Same) (a0 : SHeader) (a1 : Int) {v : V} (h : Real (av_L43_TrimHeaders a0 a1) → spec_L43_TrimHeaders a0 a1 some = some v) : FunOK Tryz.prog 3 (av_L43_TrimHeaders a0 a1) v :=
  fn_ok (fn := Tryz.f3) (c := bodyOf Tryz.f3) (E := env_L43_TrimHeaders) ⟨by kernel_rfl, (goodCons h_L43_exampleHolds (goodCons h_trim_Header (goodCons h_R43_Header (goodCons h_R23_Same goodNil)))), rfl, goodS_no⟩ rfl (by kernel_rfl) (by kernel_rfl) (by kernel_rfl)
  (loopsOK_of _ (by
    have e : loopsOf (bodyOf Tryz.f3) = [] := by kernel_rfl
    rw [e]
    intro p hp; cases hp))
  (fun hr => (spec_L43_TrimHeaders_eq a0 a1 some).trans (h hr))
theorem mk_L43_TrimHeaders (h_L43_exampleHolds : G_L43_exampleHolds) (h_trim_Header : G_trim_Header) (h_R43_Header : G_R43_Header) (h_R23_Same : G_R23_Same) (h : ∀ (a0 : SHeader) (a1 : Int), Real (av_L43_TrimHeaders a0 a1) → spec_L43_TrimHeaders a0 a1 some = some (V.bool (m_L43_TrimHeaders a0 a1))) : G_L43_TrimHeaders := goodHook1 fun l hp => by
  unfold hp_L43_TrimHeaders at hp
  split at hp
  · rename_i x0 x1 x2 x3 x4 x5 x6 x7
    exact ok_L43_TrimHeaders h_L43_exampleHolds h_trim_Header h_R43_Header h_R23_Same (SHeader.mk (SRect.mk x0 x1 x2 x3) x4 x5 x6) x7 fun hr => h (SHeader.mk (SRect.mk x0 x1 x2 x3) x4 x5 x6) x7 hr
  · cases hp
end Go.Vm
