import Derived.Test.YtoldachfmeghkaaGreatWC
set_option linter.unusedVariables false
set_option linter.unusedSimpArgs false
set_option maxRecDepth 100000
noncomputable section
namespace Go.Vm
open Go.Proofs
noncomputable def fuel_R29_ParseQuant_0 (i0_0 i0_1 : Int) (a0 : SSegment) (i0_4 i0_5 i0_6 i0_7 i0_8 i0_9 i0_10 : Int) (b0_11 b0_12 b0_13 b0_14 b0_15 b0_16 b0_17 b0_18 : Bool) (i0_19 i0_20 i0_21 i0_22 i0_23 i0_24 i0_25 : Int) (r0_26 : Rows) (i0_27 i0_28 : Int) (gc8_2_Mode : SMode) (b0_34 b0_35 b0_36 : Bool) (i0_37 i0_38 : Int) (r0_39 r0_40 r0_41 : Rows) : Nat :=
 Int.toNat (i0_0 - i0_1) + 1
noncomputable def step_R29_ParseQuant_0 {R : Type} (i0_0 : Int) (a0 : SSegment) (i0_4 i0_5 i0_6 i0_7 i0_8 i0_9 i0_10 : Int) (b0_11 b0_12 b0_13 b0_14 b0_15 b0_16 b0_17 b0_18 : Bool) (i0_19 i0_20 i0_21 i0_22 i0_23 i0_24 i0_25 : Int) (r0_26 : Rows) (i0_27 i0_28 : Int) (gc8_2_Mode : SMode) (b0_34 b0_35 b0_36 : Bool) (i0_37 i0_38 : Int) (r0_39 r0_40 : Rows) (i0_1 : Int) (r0_41 : Rows) (again : Int → Rows → Option R) (kn : Int → Rows → Option R) : Option R :=
 bif (decide (i0_1 < i0_0)) then
 bif (pre_R29_get a0.Payload i0_1 (2 : Int)) then
 let c11 : Int := (m_R29_get a0.Payload i0_1 (2 : Int))
 let x12 : Int := (IntKind.wrap .i64 (c11 + (1 : Int)))
 bif (roomOK ((List.length r0_41) + (1 : Nat)) 8) then
 let r13 : Rows := (r0_41 ++ [[(V.int .i64 x12)]])
 let x14 : Int := (IntKind.wrap .i64 (i0_1 + (2 : Int)))
 again x14 r13
 else none
 else none
 else
 kn i0_1 r0_41
noncomputable def loop_R29_ParseQuant_0 {R : Type} (i0_0 : Int) (a0 : SSegment) (i0_4 i0_5 i0_6 i0_7 i0_8 i0_9 i0_10 : Int) (b0_11 b0_12 b0_13 b0_14 b0_15 b0_16 b0_17 b0_18 : Bool) (i0_19 i0_20 i0_21 i0_22 i0_23 i0_24 i0_25 : Int) (r0_26 : Rows) (i0_27 i0_28 : Int) (gc8_2_Mode : SMode) (b0_34 b0_35 b0_36 : Bool) (i0_37 i0_38 : Int) (r0_39 r0_40 : Rows) : Nat → Int → Rows → (Int → Rows → Option R) → Option R
  | 0, _, _, _ => none
  | n + 1, i0_1, r0_41, kn => step_R29_ParseQuant_0 i0_0 a0 i0_4 i0_5 i0_6 i0_7 i0_8 i0_9 i0_10 b0_11 b0_12 b0_13 b0_14 b0_15 b0_16 b0_17 b0_18 i0_19 i0_20 i0_21 i0_22 i0_23 i0_24 i0_25 r0_26 i0_27 i0_28 gc8_2_Mode b0_34 b0_35 b0_36 i0_37 i0_38 r0_39 r0_40 i0_1 r0_41 (fun yi0_1 yr0_41 => loop_R29_ParseQuant_0 i0_0 a0 i0_4 i0_5 i0_6 i0_7 i0_8 i0_9 i0_10 b0_11 b0_12 b0_13 b0_14 b0_15 b0_16 b0_17 b0_18 i0_19 i0_20 i0_21 i0_22 i0_23 i0_24 i0_25 r0_26 i0_27 i0_28 gc8_2_Mode b0_34 b0_35 b0_36 i0_37 i0_38 r0_39 r0_40 n yi0_1 yr0_41 kn) kn
noncomputable def shape_R29_ParseQuant_0 : ST := ⟨.undef :: .undef :: .ptr 0 0 0 :: .undef :: .ptr 2 0 0 :: .undef :: .int .i64 :: .undef :: .undef :: .ptr 35 0 0 :: .int .i64 :: unds 48 [], [(0, .var SSegment.sh false SSegment.ts), (2, .var SParams.sh false [.int .i64, .int .i64, .int .i64, .int .i64, .int .i64, .vs 48, .int .i64, .int .i64, .bool, .bool, .bool, .bool, .bool, .bool, .bool, .bool, .vs 49, .int .i64, .int .i64]), (35, .var SParams.sh false [.int .i64, .int .i64, .int .i64, .int .i64, .int .i64, .data SPoint.sh, .int .i64, .int .i64, .bool, .bool, .bool, .bool, .bool, .bool, .bool, .bool, .vs 50, .int .i64, .int .i64]), (48, .vec SPoint.sh false), (49, .vec Sbox_reader.sh false), (50, .vec Sbox_reader.sh false)], 51⟩
noncomputable def st_R29_ParseQuant_0 (i0_0 : Int) (a0 : SSegment) (i0_4 i0_5 i0_6 i0_7 i0_8 i0_9 i0_10 : Int) (b0_11 b0_12 b0_13 b0_14 b0_15 b0_16 b0_17 b0_18 : Bool) (i0_19 i0_20 i0_21 i0_22 i0_23 i0_24 i0_25 : Int) (r0_26 : Rows) (i0_27 i0_28 : Int) (gc8_2_Mode : SMode) (b0_34 b0_35 b0_36 : Bool) (i0_37 i0_38 : Int) (r0_39 r0_40 : Rows) (i0_1 : Int) (r0_41 : Rows) : St := shape_R29_ParseQuant_0.put [.i i0_0, .i i0_1, .i a0.Code, .r a0.Payload, .i i0_4, .i i0_5, .i i0_6, .i i0_7, .i i0_8, .i i0_9, .i i0_10, .b b0_11, .b b0_12, .b b0_13, .b b0_14, .b b0_15, .b b0_16, .b b0_17, .b b0_18, .i i0_19, .i i0_20, .i i0_21, .i i0_22, .i i0_23, .i i0_24, .i i0_25, .r r0_26, .i i0_27, .i i0_28, .b gc8_2_Mode.Bypass, .b gc8_2_Mode.Restart, .b gc8_2_Mode.Reset, .b gc8_2_Mode.Causal, .b gc8_2_Mode.Symbols, .b b0_34, .b b0_35, .b b0_36, .i i0_37, .i i0_38, .r r0_39, .r r0_40, .r r0_41]
noncomputable def hook_R29_ParseQuant_0 {R : Type} : LoopG R := fun l kn _ _ => match l with
  | .i i0_0 :: .i i0_1 :: .i a0_Code :: .r a0_Payload :: .i i0_4 :: .i i0_5 :: .i i0_6 :: .i i0_7 :: .i i0_8 :: .i i0_9 :: .i i0_10 :: .b b0_11 :: .b b0_12 :: .b b0_13 :: .b b0_14 :: .b b0_15 :: .b b0_16 :: .b b0_17 :: .b b0_18 :: .i i0_19 :: .i i0_20 :: .i i0_21 :: .i i0_22 :: .i i0_23 :: .i i0_24 :: .i i0_25 :: .r r0_26 :: .i i0_27 :: .i i0_28 :: .b gc8_2_Mode_Bypass :: .b gc8_2_Mode_Restart :: .b gc8_2_Mode_Reset :: .b gc8_2_Mode_Causal :: .b gc8_2_Mode_Symbols :: .b b0_34 :: .b b0_35 :: .b b0_36 :: .i i0_37 :: .i i0_38 :: .r r0_39 :: .r r0_40 :: .r r0_41 :: [] => loop_R29_ParseQuant_0 i0_0 (SSegment.mk a0_Code a0_Payload) i0_4 i0_5 i0_6 i0_7 i0_8 i0_9 i0_10 b0_11 b0_12 b0_13 b0_14 b0_15 b0_16 b0_17 b0_18 i0_19 i0_20 i0_21 i0_22 i0_23 i0_24 i0_25 r0_26 i0_27 i0_28 (SMode.mk gc8_2_Mode_Bypass gc8_2_Mode_Restart gc8_2_Mode_Reset gc8_2_Mode_Causal gc8_2_Mode_Symbols) b0_34 b0_35 b0_36 i0_37 i0_38 r0_39 r0_40 (fuel_R29_ParseQuant_0 i0_0 i0_1 (SSegment.mk a0_Code a0_Payload) i0_4 i0_5 i0_6 i0_7 i0_8 i0_9 i0_10 b0_11 b0_12 b0_13 b0_14 b0_15 b0_16 b0_17 b0_18 i0_19 i0_20 i0_21 i0_22 i0_23 i0_24 i0_25 r0_26 i0_27 i0_28 (SMode.mk gc8_2_Mode_Bypass gc8_2_Mode_Restart gc8_2_Mode_Reset gc8_2_Mode_Causal gc8_2_Mode_Symbols) b0_34 b0_35 b0_36 i0_37 i0_38 r0_39 r0_40 r0_41) i0_1 r0_41 (fun yi0_1 yr0_41 => kn (st_R29_ParseQuant_0 i0_0 (SSegment.mk a0_Code a0_Payload) i0_4 i0_5 i0_6 i0_7 i0_8 i0_9 i0_10 b0_11 b0_12 b0_13 b0_14 b0_15 b0_16 b0_17 b0_18 i0_19 i0_20 i0_21 i0_22 i0_23 i0_24 i0_25 r0_26 i0_27 i0_28 (SMode.mk gc8_2_Mode_Bypass gc8_2_Mode_Restart gc8_2_Mode_Reset gc8_2_Mode_Causal gc8_2_Mode_Symbols) b0_34 b0_35 b0_36 i0_37 i0_38 r0_39 r0_40 yi0_1 yr0_41))
  | _ => none
noncomputable def shape_R29_ParseQuant_0x1 : ST := ⟨.undef :: .undef :: .ptr 0 0 0 :: .undef :: .ptr 2 0 0 :: .undef :: .lit .i64 2 :: .undef :: .undef :: .ptr 35 0 0 :: .lit .i64 2 :: unds 48 [], [(0, .var SSegment.sh false [.int .i64, .data [.int .u8]]), (2, .var SParams.sh false [.lit .i64 0, .lit .i64 0, .lit .i64 0, .lit .i64 0, .lit .i64 0, .vs 48, .lit .i64 0, .lit .i64 0, .bool, .bool, .bool, .bool, .bool, .bool, .bool, .bool, .vs 49, .lit .i64 0, .lit .i64 0]), (35, .var SParams.sh false [.int .i64, .int .i64, .int .i64, .int .i64, .int .i64, .data SPoint.sh, .int .i64, .int .i64, .bool, .bool, .bool, .bool, .bool, .bool, .bool, .bool, .vs 50, .int .i64, .int .i64]), (48, .vec SPoint.sh false), (49, .vec Sbox_reader.sh false), (50, .vec Sbox_reader.sh false)], 51⟩
noncomputable def un_R29_ParseQuant_0x1 {R : Type} (a0 : SSegment) (b0_2 b0_3 b0_4 b0_5 b0_6 b0_7 b0_8 b0_9 : Bool) (i0_10 i0_11 i0_12 i0_13 i0_14 : Int) (r0_15 : Rows) (i0_16 i0_17 : Int) (gc18_2_Mode : SMode) (b0_23 b0_24 b0_25 : Bool) (i0_26 i0_27 : Int) (r0_28 r0_29 r0_30 : Rows) (kn : St → Option R) (kr : V → Option R) : Option R :=
 kn ⟨[V.undef, V.undef, (V.ptr 0 (0 : Nat) 0), V.undef, (V.ptr 2 (0 : Nat) 0), V.undef, (V.int .i64 (2 : Int)), V.undef, V.undef, (V.ptr 35 (0 : Nat) 0), (V.int .i64 (2 : Int)), V.undef, V.undef, V.undef, V.undef, V.undef, V.undef, V.undef, V.undef, V.undef, V.undef, V.undef, V.undef, V.undef, V.undef, V.undef, V.undef, V.undef, V.undef, V.undef, V.undef, V.undef, V.undef, V.undef, V.undef, V.undef, V.undef, V.undef, V.undef, V.undef, V.undef, V.undef, V.undef, V.undef, V.undef, V.undef, V.undef, V.undef, V.undef, V.undef, V.undef, V.undef, V.undef, V.undef, V.undef, V.undef, V.undef, V.undef, V.undef], [(0, ⟨false, SSegment.sh, [(SSegment.row a0)], false⟩), (2, ⟨false, SParams.sh, [[(V.int .i64 (0 : Int)), (V.int .i64 (0 : Int)), (V.int .i64 (0 : Int)), (V.int .i64 (0 : Int)), (V.int .i64 (0 : Int)), (V.vs 48), (V.int .i64 (0 : Int)), (V.int .i64 (0 : Int)), (V.bool b0_2), (V.bool b0_3), (V.bool b0_4), (V.bool b0_5), (V.bool b0_6), (V.bool b0_7), (V.bool b0_8), (V.bool b0_9), (V.vs 49), (V.int .i64 (0 : Int)), (V.int .i64 (0 : Int))]], false⟩), (35, ⟨false, SParams.sh, [[(V.int .i64 i0_10), (V.int .i64 i0_11), (V.int .i64 i0_12), (V.int .i64 i0_13), (V.int .i64 i0_14), (V.data SPoint.sh r0_15), (V.int .i64 i0_16), (V.int .i64 i0_17), (V.bool gc18_2_Mode.Bypass), (V.bool gc18_2_Mode.Restart), (V.bool gc18_2_Mode.Reset), (V.bool gc18_2_Mode.Causal), (V.bool gc18_2_Mode.Symbols), (V.bool b0_23), (V.bool b0_24), (V.bool b0_25), (V.vs 50), (V.int .i64 i0_26), (V.int .i64 i0_27)]], false⟩), (48, ⟨true, SPoint.sh, r0_28, false⟩), (49, ⟨true, Sbox_reader.sh, r0_29, false⟩), (50, ⟨true, Sbox_reader.sh, r0_30, false⟩)], 51⟩
noncomputable def hook_R29_ParseQuant_0x1 {R : Type} : LoopG R := fun l kn _ kr => match l with
  | .i a0_Code :: .r a0_Payload :: .b b0_2 :: .b b0_3 :: .b b0_4 :: .b b0_5 :: .b b0_6 :: .b b0_7 :: .b b0_8 :: .b b0_9 :: .i i0_10 :: .i i0_11 :: .i i0_12 :: .i i0_13 :: .i i0_14 :: .r r0_15 :: .i i0_16 :: .i i0_17 :: .b gc18_2_Mode_Bypass :: .b gc18_2_Mode_Restart :: .b gc18_2_Mode_Reset :: .b gc18_2_Mode_Causal :: .b gc18_2_Mode_Symbols :: .b b0_23 :: .b b0_24 :: .b b0_25 :: .i i0_26 :: .i i0_27 :: .r r0_28 :: .r r0_29 :: .r r0_30 :: [] => un_R29_ParseQuant_0x1 (SSegment.mk a0_Code a0_Payload) b0_2 b0_3 b0_4 b0_5 b0_6 b0_7 b0_8 b0_9 i0_10 i0_11 i0_12 i0_13 i0_14 r0_15 i0_16 i0_17 (SMode.mk gc18_2_Mode_Bypass gc18_2_Mode_Restart gc18_2_Mode_Reset gc18_2_Mode_Causal gc18_2_Mode_Symbols) b0_23 b0_24 b0_25 i0_26 i0_27 r0_28 r0_29 r0_30 kn kr
  | _ => none
noncomputable def env_R29_ParseQuant {R : Type} : Env R := ⟨Tryz.prog, callCons 33 c_R29_framed (callCons 34 c_R29_get (callCons 36 c_R23_Clone callNil)), fun id => bif Nat.beq id 0 then loopAlt shape_R29_ParseQuant_0 hook_R29_ParseQuant_0 (loopAlt shape_R29_ParseQuant_0x1 hook_R29_ParseQuant_0x1 loopNil) else (fun _ _ _ _ _ => none) id, Tryz.f18.results.toList, maskTab 59 [(0, 0x1c), (1, 0x5c), (2, 0x405c), (3, 0x5c), (4, 0xdc), (5, 0x80000dc), (6, 0x30), (7, 0x254), (8, 0x254), (9, 0x654), (10, 0x200000000654), (11, 0x654), (12, 0x654), (13, 0x30)], maskAt [(1, 48), (2, 4), (4, 5), (6, 9), (8, 18), (10, 22), (12, 24), (14, 28), (16, 38), (18, 47), (20, 52), (22, 66), (24, 55), (26, 69)], noSort⟩
theorem step_R29_ParseQuant_0_eq {R : Type} (i0_0 : Int) (a0 : SSegment) (i0_4 i0_5 i0_6 i0_7 i0_8 i0_9 i0_10 : Int) (b0_11 b0_12 b0_13 b0_14 b0_15 b0_16 b0_17 b0_18 : Bool) (i0_19 i0_20 i0_21 i0_22 i0_23 i0_24 i0_25 : Int) (r0_26 : Rows) (i0_27 i0_28 : Int) (gc8_2_Mode : SMode) (b0_34 b0_35 b0_36 : Bool) (i0_37 i0_38 : Int) (r0_39 r0_40 : Rows) (si0_1 : Int) (sr0_41 : Rows) (kn : St → Option R) (kx : Nat → St → Option R) (kr : V → Option R) (n : Nat) (i0_1 : Int) (r0_41 : Rows) :
    loopN env_R29_ParseQuant 0 (loopAt Tryz.f18 0) (st_R29_ParseQuant_0 i0_0 a0 i0_4 i0_5 i0_6 i0_7 i0_8 i0_9 i0_10 b0_11 b0_12 b0_13 b0_14 b0_15 b0_16 b0_17 b0_18 i0_19 i0_20 i0_21 i0_22 i0_23 i0_24 i0_25 r0_26 i0_27 i0_28 gc8_2_Mode b0_34 b0_35 b0_36 i0_37 i0_38 r0_39 r0_40 si0_1 sr0_41) kn kx kr (n + 1) (st_R29_ParseQuant_0 i0_0 a0 i0_4 i0_5 i0_6 i0_7 i0_8 i0_9 i0_10 b0_11 b0_12 b0_13 b0_14 b0_15 b0_16 b0_17 b0_18 i0_19 i0_20 i0_21 i0_22 i0_23 i0_24 i0_25 r0_26 i0_27 i0_28 gc8_2_Mode b0_34 b0_35 b0_36 i0_37 i0_38 r0_39 r0_40 i0_1 r0_41) =
    step_R29_ParseQuant_0 i0_0 a0 i0_4 i0_5 i0_6 i0_7 i0_8 i0_9 i0_10 b0_11 b0_12 b0_13 b0_14 b0_15 b0_16 b0_17 b0_18 i0_19 i0_20 i0_21 i0_22 i0_23 i0_24 i0_25 r0_26 i0_27 i0_28 gc8_2_Mode b0_34 b0_35 b0_36 i0_37 i0_38 r0_39 r0_40 i0_1 r0_41 (fun yi0_1 yr0_41 => loopN env_R29_ParseQuant 0 (loopAt Tryz.f18 0) (st_R29_ParseQuant_0 i0_0 a0 i0_4 i0_5 i0_6 i0_7 i0_8 i0_9 i0_10 b0_11 b0_12 b0_13 b0_14 b0_15 b0_16 b0_17 b0_18 i0_19 i0_20 i0_21 i0_22 i0_23 i0_24 i0_25 r0_26 i0_27 i0_28 gc8_2_Mode b0_34 b0_35 b0_36 i0_37 i0_38 r0_39 r0_40 si0_1 sr0_41) kn kx kr n (st_R29_ParseQuant_0 i0_0 a0 i0_4 i0_5 i0_6 i0_7 i0_8 i0_9 i0_10 b0_11 b0_12 b0_13 b0_14 b0_15 b0_16 b0_17 b0_18 i0_19 i0_20 i0_21 i0_22 i0_23 i0_24 i0_25 r0_26 i0_27 i0_28 gc8_2_Mode b0_34 b0_35 b0_36 i0_37 i0_38 r0_39 r0_40 yi0_1 yr0_41)) (fun yi0_1 yr0_41 => kn (st_R29_ParseQuant_0 i0_0 a0 i0_4 i0_5 i0_6 i0_7 i0_8 i0_9 i0_10 b0_11 b0_12 b0_13 b0_14 b0_15 b0_16 b0_17 b0_18 i0_19 i0_20 i0_21 i0_22 i0_23 i0_24 i0_25 r0_26 i0_27 i0_28 gc8_2_Mode b0_34 b0_35 b0_36 i0_37 i0_38 r0_39 r0_40 yi0_1 yr0_41)) := by kernel_rfl
theorem loop_R29_ParseQuant_0_eq {R : Type} (i0_0 : Int) (a0 : SSegment) (i0_4 i0_5 i0_6 i0_7 i0_8 i0_9 i0_10 : Int) (b0_11 b0_12 b0_13 b0_14 b0_15 b0_16 b0_17 b0_18 : Bool) (i0_19 i0_20 i0_21 i0_22 i0_23 i0_24 i0_25 : Int) (r0_26 : Rows) (i0_27 i0_28 : Int) (gc8_2_Mode : SMode) (b0_34 b0_35 b0_36 : Bool) (i0_37 i0_38 : Int) (r0_39 r0_40 : Rows) (si0_1 : Int) (sr0_41 : Rows) (kn : St → Option R) (kx : Nat → St → Option R) (kr : V → Option R) : ∀ (n : Nat) (i0_1 : Int) (r0_41 : Rows),
    loop_R29_ParseQuant_0 i0_0 a0 i0_4 i0_5 i0_6 i0_7 i0_8 i0_9 i0_10 b0_11 b0_12 b0_13 b0_14 b0_15 b0_16 b0_17 b0_18 i0_19 i0_20 i0_21 i0_22 i0_23 i0_24 i0_25 r0_26 i0_27 i0_28 gc8_2_Mode b0_34 b0_35 b0_36 i0_37 i0_38 r0_39 r0_40 n i0_1 r0_41 (fun yi0_1 yr0_41 => kn (st_R29_ParseQuant_0 i0_0 a0 i0_4 i0_5 i0_6 i0_7 i0_8 i0_9 i0_10 b0_11 b0_12 b0_13 b0_14 b0_15 b0_16 b0_17 b0_18 i0_19 i0_20 i0_21 i0_22 i0_23 i0_24 i0_25 r0_26 i0_27 i0_28 gc8_2_Mode b0_34 b0_35 b0_36 i0_37 i0_38 r0_39 r0_40 yi0_1 yr0_41)) = loopN env_R29_ParseQuant 0 (loopAt Tryz.f18 0) (st_R29_ParseQuant_0 i0_0 a0 i0_4 i0_5 i0_6 i0_7 i0_8 i0_9 i0_10 b0_11 b0_12 b0_13 b0_14 b0_15 b0_16 b0_17 b0_18 i0_19 i0_20 i0_21 i0_22 i0_23 i0_24 i0_25 r0_26 i0_27 i0_28 gc8_2_Mode b0_34 b0_35 b0_36 i0_37 i0_38 r0_39 r0_40 si0_1 sr0_41) kn kx kr n (st_R29_ParseQuant_0 i0_0 a0 i0_4 i0_5 i0_6 i0_7 i0_8 i0_9 i0_10 b0_11 b0_12 b0_13 b0_14 b0_15 b0_16 b0_17 b0_18 i0_19 i0_20 i0_21 i0_22 i0_23 i0_24 i0_25 r0_26 i0_27 i0_28 gc8_2_Mode b0_34 b0_35 b0_36 i0_37 i0_38 r0_39 r0_40 i0_1 r0_41)
  | 0, _, _ => rfl
  | n + 1, i0_1, r0_41 => by
    rw [step_R29_ParseQuant_0_eq, loop_R29_ParseQuant_0]
    congr 1
    funext yi0_1 yr0_41
    exact loop_R29_ParseQuant_0_eq i0_0 a0 i0_4 i0_5 i0_6 i0_7 i0_8 i0_9 i0_10 b0_11 b0_12 b0_13 b0_14 b0_15 b0_16 b0_17 b0_18 i0_19 i0_20 i0_21 i0_22 i0_23 i0_24 i0_25 r0_26 i0_27 i0_28 gc8_2_Mode b0_34 b0_35 b0_36 i0_37 i0_38 r0_39 r0_40 si0_1 sr0_41 kn kx kr n yi0_1 yr0_41
theorem goodl_R29_ParseQuant_0 {R : Type} {rest} (h : GoodL (R := R) env_R29_ParseQuant 0 (loopAt Tryz.f18 0) rest) : GoodL (R := R) env_R29_ParseQuant 0 (loopAt Tryz.f18 0) (loopAlt shape_R29_ParseQuant_0 hook_R29_ParseQuant_0 rest) := by
  refine goodL_alt (fun l kn kx kr r h => ?_) h
  unfold hook_R29_ParseQuant_0 at h
  split at h
  · rename_i i0_0 i0_1 a0_Code a0_Payload i0_4 i0_5 i0_6 i0_7 i0_8 i0_9 i0_10 b0_11 b0_12 b0_13 b0_14 b0_15 b0_16 b0_17 b0_18 i0_19 i0_20 i0_21 i0_22 i0_23 i0_24 i0_25 r0_26 i0_27 i0_28 gc8_2_Mode_Bypass gc8_2_Mode_Restart gc8_2_Mode_Reset gc8_2_Mode_Causal gc8_2_Mode_Symbols b0_34 b0_35 b0_36 i0_37 i0_38 r0_39 r0_40 r0_41
    exact ⟨_, (loop_R29_ParseQuant_0_eq i0_0 (SSegment.mk a0_Code a0_Payload) i0_4 i0_5 i0_6 i0_7 i0_8 i0_9 i0_10 b0_11 b0_12 b0_13 b0_14 b0_15 b0_16 b0_17 b0_18 i0_19 i0_20 i0_21 i0_22 i0_23 i0_24 i0_25 r0_26 i0_27 i0_28 (SMode.mk gc8_2_Mode_Bypass gc8_2_Mode_Restart gc8_2_Mode_Reset gc8_2_Mode_Causal gc8_2_Mode_Symbols) b0_34 b0_35 b0_36 i0_37 i0_38 r0_39 r0_40 i0_1 r0_41 kn kx kr _ i0_1 r0_41).symm.trans h⟩
  · cases h
theorem un_R29_ParseQuant_0x1_eq {R : Type} (a0 : SSegment) (b0_2 b0_3 b0_4 b0_5 b0_6 b0_7 b0_8 b0_9 : Bool) (i0_10 i0_11 i0_12 i0_13 i0_14 : Int) (r0_15 : Rows) (i0_16 i0_17 : Int) (gc18_2_Mode : SMode) (b0_23 b0_24 b0_25 : Bool) (i0_26 i0_27 : Int) (r0_28 r0_29 r0_30 : Rows) (kn : St → Option R) (kx : Nat → St → Option R) (kr : V → Option R) : loopN env_R29_ParseQuant 0 (loopAt Tryz.f18 0) (shape_R29_ParseQuant_0x1.put [.i a0.Code, .r a0.Payload, .b b0_2, .b b0_3, .b b0_4, .b b0_5, .b b0_6, .b b0_7, .b b0_8, .b b0_9, .i i0_10, .i i0_11, .i i0_12, .i i0_13, .i i0_14, .r r0_15, .i i0_16, .i i0_17, .b gc18_2_Mode.Bypass, .b gc18_2_Mode.Restart, .b gc18_2_Mode.Reset, .b gc18_2_Mode.Causal, .b gc18_2_Mode.Symbols, .b b0_23, .b b0_24, .b b0_25, .i i0_26, .i i0_27, .r r0_28, .r r0_29, .r r0_30]) kn kx kr 1 (shape_R29_ParseQuant_0x1.put [.i a0.Code, .r a0.Payload, .b b0_2, .b b0_3, .b b0_4, .b b0_5, .b b0_6, .b b0_7, .b b0_8, .b b0_9, .i i0_10, .i i0_11, .i i0_12, .i i0_13, .i i0_14, .r r0_15, .i i0_16, .i i0_17, .b gc18_2_Mode.Bypass, .b gc18_2_Mode.Restart, .b gc18_2_Mode.Reset, .b gc18_2_Mode.Causal, .b gc18_2_Mode.Symbols, .b b0_23, .b b0_24, .b b0_25, .i i0_26, .i i0_27, .r r0_28, .r r0_29, .r r0_30]) = un_R29_ParseQuant_0x1 a0 b0_2 b0_3 b0_4 b0_5 b0_6 b0_7 b0_8 b0_9 i0_10 i0_11 i0_12 i0_13 i0_14 r0_15 i0_16 i0_17 gc18_2_Mode b0_23 b0_24 b0_25 i0_26 i0_27 r0_28 r0_29 r0_30 kn kr := by kernel_rfl
theorem goodl_R29_ParseQuant_0x1 {R : Type} {rest} (h : GoodL (R := R) env_R29_ParseQuant 0 (loopAt Tryz.f18 0) rest) : GoodL (R := R) env_R29_ParseQuant 0 (loopAt Tryz.f18 0) (loopAlt shape_R29_ParseQuant_0x1 hook_R29_ParseQuant_0x1 rest) := by
  refine goodL_alt (fun l kn kx kr r h => ?_) h
  unfold hook_R29_ParseQuant_0x1 at h
  split at h
  · rename_i a0_Code a0_Payload b0_2 b0_3 b0_4 b0_5 b0_6 b0_7 b0_8 b0_9 i0_10 i0_11 i0_12 i0_13 i0_14 r0_15 i0_16 i0_17 gc18_2_Mode_Bypass gc18_2_Mode_Restart gc18_2_Mode_Reset gc18_2_Mode_Causal gc18_2_Mode_Symbols b0_23 b0_24 b0_25 i0_26 i0_27 r0_28 r0_29 r0_30
    exact ⟨1, (un_R29_ParseQuant_0x1_eq (SSegment.mk a0_Code a0_Payload) b0_2 b0_3 b0_4 b0_5 b0_6 b0_7 b0_8 b0_9 i0_10 i0_11 i0_12 i0_13 i0_14 r0_15 i0_16 i0_17 (SMode.mk gc18_2_Mode_Bypass gc18_2_Mode_Restart gc18_2_Mode_Reset gc18_2_Mode_Causal gc18_2_Mode_Symbols) b0_23 b0_24 b0_25 i0_26 i0_27 r0_28 r0_29 r0_30 kn kx kr).trans h⟩
  · cases h
theorem good_R29_ParseQuant_0 {R : Type} : GoodLoop (R := R) env_R29_ParseQuant 0 (loopAt Tryz.f18 0) := goodL_loop (g := loopAlt shape_R29_ParseQuant_0 hook_R29_ParseQuant_0 (loopAlt shape_R29_ParseQuant_0x1 hook_R29_ParseQuant_0x1 loopNil)) (fun _ _ _ _ => rfl) (goodl_R29_ParseQuant_0 (goodl_R29_ParseQuant_0x1 goodL_nil))
noncomputable def spec_R29_ParseQuant {R : Type} (a0 : SSegment) (a1 : SParams) (k : V → Option R) : Option R :=
 let x1 : Int := (((List.length a0.Payload) : Nat) : Int)
 let b2 : Bool := (decide (x1 ≥ (2 : Int)))
 bif b2 then
 bif (inR (1 : Int) (List.length a0.Payload)) then
 let w3 : List V := (List.getD a0.Payload (1 : Nat) [])
 let x4 : Int := (V.toInt (List.getD w3 0 V.undef))
 let x5 : Int := (IntKind.wrap .i64 ((2 : Int) * (IntKind.wrap .i64 x4)))
 let x6 : Int := (IntKind.wrap .i64 ((2 : Int) + x5))
 let c7 : Int := (m_R29_framed a0 (65443 : Int) x6)
 bif (c7 != (0 : Int)) then
 k (V.tup [(V.agg [(V.int .i64 (0 : Int)), (V.int .i64 (0 : Int)), (V.int .i64 (0 : Int)), (V.int .i64 (0 : Int)), (V.int .i64 (0 : Int)), (V.data SPoint.sh []), (V.int .i64 (0 : Int)), (V.int .i64 (0 : Int)), (V.bool false), (V.bool false), (V.bool false), (V.bool false), (V.bool false), (V.bool false), (V.bool false), (V.bool false), (V.data Sbox_reader.sh []), (V.int .i64 (0 : Int)), (V.int .i64 (0 : Int))]), (V.int .i64 c7)])
 else
 bif (pre_R23_Clone (SHeader.mk (SRect.mk (0 : Int) (0 : Int) (0 : Int) (0 : Int)) (0 : Int) (0 : Int) []) a1) then
 let c8 : SHeader × SParams := (m_R23_Clone (SHeader.mk (SRect.mk (0 : Int) (0 : Int) (0 : Int) (0 : Int)) (0 : Int) (0 : Int) []) a1)
 bif (inR (0 : Int) (List.length a0.Payload)) then
 let w9 : List V := (List.getD a0.Payload (0 : Nat) [])
 let x10 : Int := (V.toInt (List.getD w9 0 V.undef))
 loop_R29_ParseQuant_0 x6 a0 (0 : Int) (0 : Int) (0 : Int) (0 : Int) (0 : Int) (0 : Int) (0 : Int) false false false false false false false false (0 : Int) (0 : Int) c8.2.Kernel c8.2.Levels c8.2.Color c8.2.BlockX c8.2.BlockY c8.2.Precincts c8.2.Order c8.2.Layers c8.2.Mode c8.2.Divide c8.2.Sync c8.2.Fence (IntKind.wrap .i64 x10) c8.2.Shift [] [] (fuel_R29_ParseQuant_0 x6 (2 : Int) a0 (0 : Int) (0 : Int) (0 : Int) (0 : Int) (0 : Int) (0 : Int) (0 : Int) false false false false false false false false (0 : Int) (0 : Int) c8.2.Kernel c8.2.Levels c8.2.Color c8.2.BlockX c8.2.BlockY c8.2.Precincts c8.2.Order c8.2.Layers c8.2.Mode c8.2.Divide c8.2.Sync c8.2.Fence (IntKind.wrap .i64 x10) c8.2.Shift [] [] []) (2 : Int) [] (fun i0_z15 r0_z16 =>
 k (V.tup [(V.agg [(V.int .i64 c8.2.Kernel), (V.int .i64 c8.2.Levels), (V.int .i64 c8.2.Color), (V.int .i64 c8.2.BlockX), (V.int .i64 c8.2.BlockY), (V.data SPoint.sh c8.2.Precincts), (V.int .i64 c8.2.Order), (V.int .i64 c8.2.Layers), (V.bool c8.2.Mode.Bypass), (V.bool c8.2.Mode.Restart), (V.bool c8.2.Mode.Reset), (V.bool c8.2.Mode.Causal), (V.bool c8.2.Mode.Symbols), (V.bool c8.2.Divide), (V.bool c8.2.Sync), (V.bool c8.2.Fence), (V.data Sbox_reader.sh r0_z16), (V.int .i64 (IntKind.wrap .i64 x10)), (V.int .i64 c8.2.Shift)]), (V.int .i64 (0 : Int))]))
 else none
 else none
 else none
 else
 let c17 : Int := (m_R29_framed a0 (65443 : Int) (2 : Int))
 bif (c17 != (0 : Int)) then
 k (V.tup [(V.agg [(V.int .i64 (0 : Int)), (V.int .i64 (0 : Int)), (V.int .i64 (0 : Int)), (V.int .i64 (0 : Int)), (V.int .i64 (0 : Int)), (V.data SPoint.sh []), (V.int .i64 (0 : Int)), (V.int .i64 (0 : Int)), (V.bool false), (V.bool false), (V.bool false), (V.bool false), (V.bool false), (V.bool false), (V.bool false), (V.bool false), (V.data Sbox_reader.sh []), (V.int .i64 (0 : Int)), (V.int .i64 (0 : Int))]), (V.int .i64 c17)])
 else
 bif (pre_R23_Clone (SHeader.mk (SRect.mk (0 : Int) (0 : Int) (0 : Int) (0 : Int)) (0 : Int) (0 : Int) []) a1) then
 let c18 : SHeader × SParams := (m_R23_Clone (SHeader.mk (SRect.mk (0 : Int) (0 : Int) (0 : Int) (0 : Int)) (0 : Int) (0 : Int) []) a1)
 bif (inR (0 : Int) (List.length a0.Payload)) then
 let w19 : List V := (List.getD a0.Payload (0 : Nat) [])
 let x20 : Int := (V.toInt (List.getD w19 0 V.undef))
 k (V.tup [(V.agg [(V.int .i64 c18.2.Kernel), (V.int .i64 c18.2.Levels), (V.int .i64 c18.2.Color), (V.int .i64 c18.2.BlockX), (V.int .i64 c18.2.BlockY), (V.data SPoint.sh c18.2.Precincts), (V.int .i64 c18.2.Order), (V.int .i64 c18.2.Layers), (V.bool c18.2.Mode.Bypass), (V.bool c18.2.Mode.Restart), (V.bool c18.2.Mode.Reset), (V.bool c18.2.Mode.Causal), (V.bool c18.2.Mode.Symbols), (V.bool c18.2.Divide), (V.bool c18.2.Sync), (V.bool c18.2.Fence), (V.data Sbox_reader.sh []), (V.int .i64 (IntKind.wrap .i64 x20)), (V.int .i64 c18.2.Shift)]), (V.int .i64 (0 : Int))])
 else none
 else none
abbrev av_R29_ParseQuant (a0 : SSegment) (a1 : SParams) : List V := [(SSegment.v a0), (SParams.v a1)]
theorem spec_R29_ParseQuant_eq {R : Type} (a0 : SSegment) (a1 : SParams) (k : V → Option R) : fnK env_R29_ParseQuant Tryz.f18 (av_R29_ParseQuant a0 a1) k = spec_R29_ParseQuant a0 a1 k := by kernel_rfl
theorem ok_R29_ParseQuant (h_R29_framed : G_R29_framed) (h_R29_get : G_R29_get) (h_R23_Clone : G_R23_Clone) (a0 : SSegment) (a1 : SParams) {v : V} (h : Real (av_R29_ParseQuant a0 a1) → spec_R29_ParseQuant a0 a1 some = some v) : FunOK Tryz.prog 18 (av_R29_ParseQuant a0 a1) v :=
  fn_ok (fn := Tryz.f18) (c := bodyOf Tryz.f18) (E := env_R29_ParseQuant) ⟨by kernel_rfl, (goodCons h_R29_framed (goodCons h_R29_get (goodCons h_R23_Clone goodNil))), rfl, goodS_no⟩ rfl (by kernel_rfl) (by kernel_rfl) (by kernel_rfl)
  (loopsOK_of _ (by
    have e : loopsOf (bodyOf Tryz.f18) = [(0, loopAt Tryz.f18 0)] := by kernel_rfl
    rw [e]
    simp only [List.forall_mem_cons, List.not_mem_nil, false_implies, implies_true, and_true]
    exact good_R29_ParseQuant_0))
  (fun hr => (spec_R29_ParseQuant_eq a0 a1 some).trans (h hr))
theorem mk_R29_ParseQuant (h_R29_framed : G_R29_framed) (h_R29_get : G_R29_get) (h_R23_Clone : G_R23_Clone) (h : ∀ (a0 : SSegment) (a1 : SParams), pre_R29_ParseQuant a0 a1 = true → Real (av_R29_ParseQuant a0 a1) → spec_R29_ParseQuant a0 a1 some = some (V.tup [(SParams.v (m_R29_ParseQuant a0 a1).1), (V.int .i64 (m_R29_ParseQuant a0 a1).2)])) : G_R29_ParseQuant := goodHook1 fun l hp => by
  unfold hp_R29_ParseQuant at hp
  split at hp
  · rename_i x0 x1 x2 x3 x4 x5 x6 x7 x8 x9 x10 x11 x12 x13 x14 x15 x16 x17 x18 x19 x20
    exact ok_R29_ParseQuant h_R29_framed h_R29_get h_R23_Clone (SSegment.mk x0 x1) (SParams.mk x2 x3 x4 x5 x6 x7 x8 x9 (SMode.mk x10 x11 x12 x13 x14) x15 x16 x17 x18 x19 x20) fun hr => h (SSegment.mk x0 x1) (SParams.mk x2 x3 x4 x5 x6 x7 x8 x9 (SMode.mk x10 x11 x12 x13 x14) x15 x16 x17 x18 x19 x20) hp hr
  · cases hp
noncomputable def env_R01_Intersect {R : Type} : Env R := ⟨Tryz.prog, callCons 64 c_R01_Empty callNil, fun _ _ _ _ _ => none, Tryz.f112.results.toList, maskTab 31 [(0, 0x1c), (1, 0x30), (2, 0x10000030), (3, 0x10), (4, 0x10)], maskAt [(2, 3), (4, 26), (6, 28), (8, 30)], noSort⟩
noncomputable def spec_R01_Intersect {R : Type} (a0 a1 : SRect) (k : V → Option R) : Option R :=
 let x1 : Int := (bif (decide (a1.X0 > a0.X0)) then a1.X0 else a0.X0)
 let x2 : Int := (bif (decide (a1.Y0 > a0.Y0)) then a1.Y0 else a0.Y0)
 let x3 : Int := (bif (decide (a1.X1 < a0.X1)) then a1.X1 else a0.X1)
 let x4 : Int := (bif (decide (a1.Y1 < a0.Y1)) then a1.Y1 else a0.Y1)
 let c5 : Bool := (m_R01_Empty (SRect.mk x1 x2 x3 x4))
 bif c5 then
 k (V.agg [(V.int .i64 (0 : Int)), (V.int .i64 (0 : Int)), (V.int .i64 (0 : Int)), (V.int .i64 (0 : Int))])
 else
 k (V.agg [(V.int .i64 x1), (V.int .i64 x2), (V.int .i64 x3), (V.int .i64 x4)])
abbrev av_R01_Intersect (a0 a1 : SRect) : List V := [(SRect.v a0), (SRect.v a1)]
theorem spec_R01_Intersect_eq {R : Type} (a0 a1 : SRect) (k : V → Option R) : fnK env_R01_Intersect Tryz.f112 (av_R01_Intersect a0 a1) k = spec_R01_Intersect a0 a1 k := by kernel_rfl
theorem ok_R01_Intersect (h_R01_Empty : G_R01_Empty) (a0 a1 : SRect) {v : V} (h : Real (av_R01_Intersect a0 a1) → spec_R01_Intersect a0 a1 some = some v) : FunOK Tryz.prog 112 (av_R01_Intersect a0 a1) v :=
  fn_ok (fn := Tryz.f112) (c := bodyOf Tryz.f112) (E := env_R01_Intersect) ⟨by kernel_rfl, (goodCons h_R01_Empty goodNil), rfl, goodS_no⟩ rfl (by kernel_rfl) (by kernel_rfl) (by kernel_rfl)
  (loopsOK_of _ (by
    have e : loopsOf (bodyOf Tryz.f112) = [] := by kernel_rfl
    rw [e]
    intro p hp; cases hp))
  (fun hr => (spec_R01_Intersect_eq a0 a1 some).trans (h hr))
theorem mk_R01_Intersect (h_R01_Empty : G_R01_Empty) (h : ∀ (a0 a1 : SRect), Real (av_R01_Intersect a0 a1) → spec_R01_Intersect a0 a1 some = some (SRect.v (m_R01_Intersect a0 a1))) : G_R01_Intersect := goodHook1 fun l hp => by
  unfold hp_R01_Intersect at hp
  split at hp
  · rename_i x0 x1 x2 x3 x4 x5 x6 x7
    exact ok_R01_Intersect h_R01_Empty (SRect.mk x0 x1 x2 x3) (SRect.mk x4 x5 x6 x7) fun hr => h (SRect.mk x0 x1 x2 x3) (SRect.mk x4 x5 x6 x7) hr
  · cases hp
theorem au_R01_Intersect (a0 a1 : SRect) : spec_R01_Intersect a0 a1 some = some ((fun (m : SRect) => (SRect.v m)) (m_R01_Intersect a0 a1)) := by
  repeat' (first | rfl | refine bif_t (v := (fun (m : SRect) => (SRect.v m))) ?_ ?_)
theorem good_R01_Intersect_of (h_R01_Empty : G_R01_Empty) : G_R01_Intersect := mk_R01_Intersect h_R01_Empty (fun _ _ _ => au_R01_Intersect _ _)
noncomputable def fuel_R01_Cells_2 (i2_0 i2_1 i2_2 i2_3 i2_4 i2_5 i2_6 : Int) (a0 : SRect) (r2_11 : Rows) : Nat :=
 Int.toNat (i2_3 - i2_6) + 1
noncomputable def step_R01_Cells_2 {R : Type} (i2_0 i2_1 i2_2 i2_3 i2_4 i2_5 : Int) (a0 : SRect) (i2_6 : Int) (r2_11 : Rows) (again : Int → Rows → Option R) (kn : Int → Rows → Option R) : Option R :=
 bif (decide (i2_6 < i2_3)) then
 let x15 : Int := (IntKind.wrap .i64 (i2_6 * i2_0))
 let x16 : Int := (IntKind.wrap .i64 (i2_5 * i2_1))
 let x17 : Int := (IntKind.wrap .i64 (i2_6 * i2_0))
 let x18 : Int := (IntKind.wrap .i64 (x17 + i2_0))
 let x19 : Int := (IntKind.wrap .i64 (i2_5 * i2_1))
 let x20 : Int := (IntKind.wrap .i64 (x19 + i2_1))
 let c21 : SRect := (m_R01_Intersect a0 (SRect.mk x15 x16 x18 x20))
 bif (roomOK ((List.length r2_11) + (1 : Nat)) 32) then
 let r22 : Rows := (r2_11 ++ [(SRect.row c21)])
 let x23 : Int := (IntKind.wrap .i64 (i2_6 + (1 : Int)))
 again x23 r22
 else none
 else
 kn i2_6 r2_11
noncomputable def loop_R01_Cells_2 {R : Type} (i2_0 i2_1 i2_2 i2_3 i2_4 i2_5 : Int) (a0 : SRect) : Nat → Int → Rows → (Int → Rows → Option R) → Option R
  | 0, _, _, _ => none
  | n + 1, i2_6, r2_11, kn => step_R01_Cells_2 i2_0 i2_1 i2_2 i2_3 i2_4 i2_5 a0 i2_6 r2_11 (fun yi2_6 yr2_11 => loop_R01_Cells_2 i2_0 i2_1 i2_2 i2_3 i2_4 i2_5 a0 n yi2_6 yr2_11 kn) kn
noncomputable def shape_R01_Cells_2 : ST := ⟨.undef :: .int .i64 :: .int .i64 :: .ptr 0 0 0 :: unds 3 (.int .i64 :: .int .i64 :: .undef :: .int .i64 :: .vs 50 :: .int .i64 :: .int .i64 :: unds 74 []), [(0, .var SRect.sh false SRect.ts), (50, .vec SRect.sh false)], 59⟩
noncomputable def st_R01_Cells_2 (i2_0 i2_1 i2_2 i2_3 i2_4 i2_5 : Int) (a0 : SRect) (i2_6 : Int) (r2_11 : Rows) : St := shape_R01_Cells_2.put [.i i2_0, .i i2_1, .i i2_2, .i i2_3, .i i2_4, .i i2_5, .i i2_6, .i a0.X0, .i a0.Y0, .i a0.X1, .i a0.Y1, .r r2_11]
noncomputable def hook_R01_Cells_2 {R : Type} : LoopG R := fun l kn _ _ => match l with
  | .i i2_0 :: .i i2_1 :: .i i2_2 :: .i i2_3 :: .i i2_4 :: .i i2_5 :: .i i2_6 :: .i a0_X0 :: .i a0_Y0 :: .i a0_X1 :: .i a0_Y1 :: .r r2_11 :: [] => loop_R01_Cells_2 i2_0 i2_1 i2_2 i2_3 i2_4 i2_5 (SRect.mk a0_X0 a0_Y0 a0_X1 a0_Y1) (fuel_R01_Cells_2 i2_0 i2_1 i2_2 i2_3 i2_4 i2_5 i2_6 (SRect.mk a0_X0 a0_Y0 a0_X1 a0_Y1) r2_11) i2_6 r2_11 (fun yi2_6 yr2_11 => kn (st_R01_Cells_2 i2_0 i2_1 i2_2 i2_3 i2_4 i2_5 (SRect.mk a0_X0 a0_Y0 a0_X1 a0_Y1) yi2_6 yr2_11))
  | _ => none
noncomputable def fuel_R01_Cells_0 (i0_0 i0_1 i0_2 i0_3 i0_4 i0_5 : Int) (a0 : SRect) (r0_10 : Rows) : Nat :=
 Int.toNat (i0_4 - i0_5) + 1
noncomputable def step_R01_Cells_0 {R : Type} (i0_0 i0_1 i0_2 i0_3 i0_4 : Int) (a0 : SRect) (i0_5 : Int) (r0_10 : Rows) (again : Int → Rows → Option R) (kn : Int → Rows → Option R) : Option R :=
 bif (decide (i0_5 < i0_4)) then
 loop_R01_Cells_2 i0_0 i0_1 i0_2 i0_3 i0_4 i0_5 a0 (fuel_R01_Cells_2 i0_0 i0_1 i0_2 i0_3 i0_4 i0_5 i0_2 a0 r0_10) i0_2 r0_10 (fun i2_z15 r2_z16 =>
 let x17 : Int := (IntKind.wrap .i64 (i0_5 + (1 : Int)))
 again x17 r2_z16)
 else
 kn i0_5 r0_10
noncomputable def loop_R01_Cells_0 {R : Type} (i0_0 i0_1 i0_2 i0_3 i0_4 : Int) (a0 : SRect) : Nat → Int → Rows → (Int → Rows → Option R) → Option R
  | 0, _, _, _ => none
  | n + 1, i0_5, r0_10, kn => step_R01_Cells_0 i0_0 i0_1 i0_2 i0_3 i0_4 a0 i0_5 r0_10 (fun yi0_5 yr0_10 => loop_R01_Cells_0 i0_0 i0_1 i0_2 i0_3 i0_4 a0 n yi0_5 yr0_10 kn) kn
noncomputable def shape_R01_Cells_0 : ST := ⟨.undef :: .int .i64 :: .int .i64 :: .ptr 0 0 0 :: unds 3 (.int .i64 :: .int .i64 :: .undef :: .int .i64 :: .vs 50 :: .int .i64 :: unds 75 []), [(0, .var SRect.sh false SRect.ts), (50, .vec SRect.sh false)], 51⟩
noncomputable def st_R01_Cells_0 (i0_0 i0_1 i0_2 i0_3 i0_4 : Int) (a0 : SRect) (i0_5 : Int) (r0_10 : Rows) : St := shape_R01_Cells_0.put [.i i0_0, .i i0_1, .i i0_2, .i i0_3, .i i0_4, .i i0_5, .i a0.X0, .i a0.Y0, .i a0.X1, .i a0.Y1, .r r0_10]
noncomputable def hook_R01_Cells_0 {R : Type} : LoopG R := fun l kn _ _ => match l with
  | .i i0_0 :: .i i0_1 :: .i i0_2 :: .i i0_3 :: .i i0_4 :: .i i0_5 :: .i a0_X0 :: .i a0_Y0 :: .i a0_X1 :: .i a0_Y1 :: .r r0_10 :: [] => loop_R01_Cells_0 i0_0 i0_1 i0_2 i0_3 i0_4 (SRect.mk a0_X0 a0_Y0 a0_X1 a0_Y1) (fuel_R01_Cells_0 i0_0 i0_1 i0_2 i0_3 i0_4 i0_5 (SRect.mk a0_X0 a0_Y0 a0_X1 a0_Y1) r0_10) i0_5 r0_10 (fun yi0_5 yr0_10 => kn (st_R01_Cells_0 i0_0 i0_1 i0_2 i0_3 i0_4 (SRect.mk a0_X0 a0_Y0 a0_X1 a0_Y1) yi0_5 yr0_10))
  | _ => none
noncomputable def env_R01_Cells {R : Type} : Env R := ⟨Tryz.prog, callCons 63 c_R01_Valid (callCons 64 c_R01_Empty (callCons 110 c_R01_CeilDiv (callCons 111 c_R01_FloorDiv (callCons 112 c_R01_Intersect callNil)))), fun id => bif Nat.beq id 2 then loopAlt shape_R01_Cells_2 hook_R01_Cells_2 loopNil else (fun id => bif Nat.beq id 0 then loopAlt shape_R01_Cells_0 hook_R01_Cells_0 loopNil else (fun _ _ _ _ _ => none) id) id, Tryz.f69.results.toList, maskTab 88 [(0, 0xccc000e), (1, 0x1000000e), (2, 0x40), (3, 0x8e), (4, 0x18e), (5, 0x38e), (6, 0x78e), (7, 0x1000000000078e), (8, 0x40), (9, 0xf8e), (10, 0x1d8e), (11, 0x100000000001d8e), (12, 0x1d8e), (13, 0x3d8e), (14, 0x4000000000003d8e), (15, 0x3d8e), (16, 0x3d8e), (17, 0x40)], maskAt [(1, 50), (2, 2), (4, 17), (5, 59), (6, 18), (8, 23), (10, 28), (12, 33), (14, 38), (16, 46), (18, 47), (20, 48), (22, 54), (24, 92), (26, 57), (28, 63), (30, 89), (32, 66), (34, 95)], noSort⟩
theorem step_R01_Cells_2_eq {R : Type} (i2_0 i2_1 i2_2 i2_3 i2_4 i2_5 : Int) (a0 : SRect) (si2_6 : Int) (sr2_11 : Rows) (kn : St → Option R) (kx : Nat → St → Option R) (kr : V → Option R) (n : Nat) (i2_6 : Int) (r2_11 : Rows) :
    loopN env_R01_Cells 2 (loopAt Tryz.f69 1) (st_R01_Cells_2 i2_0 i2_1 i2_2 i2_3 i2_4 i2_5 a0 si2_6 sr2_11) kn kx kr (n + 1) (st_R01_Cells_2 i2_0 i2_1 i2_2 i2_3 i2_4 i2_5 a0 i2_6 r2_11) =
    step_R01_Cells_2 i2_0 i2_1 i2_2 i2_3 i2_4 i2_5 a0 i2_6 r2_11 (fun yi2_6 yr2_11 => loopN env_R01_Cells 2 (loopAt Tryz.f69 1) (st_R01_Cells_2 i2_0 i2_1 i2_2 i2_3 i2_4 i2_5 a0 si2_6 sr2_11) kn kx kr n (st_R01_Cells_2 i2_0 i2_1 i2_2 i2_3 i2_4 i2_5 a0 yi2_6 yr2_11)) (fun yi2_6 yr2_11 => kn (st_R01_Cells_2 i2_0 i2_1 i2_2 i2_3 i2_4 i2_5 a0 yi2_6 yr2_11)) := by kernel_rfl
theorem loop_R01_Cells_2_eq {R : Type} (i2_0 i2_1 i2_2 i2_3 i2_4 i2_5 : Int) (a0 : SRect) (si2_6 : Int) (sr2_11 : Rows) (kn : St → Option R) (kx : Nat → St → Option R) (kr : V → Option R) : ∀ (n : Nat) (i2_6 : Int) (r2_11 : Rows),
    loop_R01_Cells_2 i2_0 i2_1 i2_2 i2_3 i2_4 i2_5 a0 n i2_6 r2_11 (fun yi2_6 yr2_11 => kn (st_R01_Cells_2 i2_0 i2_1 i2_2 i2_3 i2_4 i2_5 a0 yi2_6 yr2_11)) = loopN env_R01_Cells 2 (loopAt Tryz.f69 1) (st_R01_Cells_2 i2_0 i2_1 i2_2 i2_3 i2_4 i2_5 a0 si2_6 sr2_11) kn kx kr n (st_R01_Cells_2 i2_0 i2_1 i2_2 i2_3 i2_4 i2_5 a0 i2_6 r2_11)
  | 0, _, _ => rfl
  | n + 1, i2_6, r2_11 => by
    rw [step_R01_Cells_2_eq, loop_R01_Cells_2]
    congr 1
    funext yi2_6 yr2_11
    exact loop_R01_Cells_2_eq i2_0 i2_1 i2_2 i2_3 i2_4 i2_5 a0 si2_6 sr2_11 kn kx kr n yi2_6 yr2_11
theorem goodl_R01_Cells_2 {R : Type} {rest} (h : GoodL (R := R) env_R01_Cells 2 (loopAt Tryz.f69 1) rest) : GoodL (R := R) env_R01_Cells 2 (loopAt Tryz.f69 1) (loopAlt shape_R01_Cells_2 hook_R01_Cells_2 rest) := by
  refine goodL_alt (fun l kn kx kr r h => ?_) h
  unfold hook_R01_Cells_2 at h
  split at h
  · rename_i i2_0 i2_1 i2_2 i2_3 i2_4 i2_5 i2_6 a0_X0 a0_Y0 a0_X1 a0_Y1 r2_11
    exact ⟨_, (loop_R01_Cells_2_eq i2_0 i2_1 i2_2 i2_3 i2_4 i2_5 (SRect.mk a0_X0 a0_Y0 a0_X1 a0_Y1) i2_6 r2_11 kn kx kr _ i2_6 r2_11).symm.trans h⟩
  · cases h
theorem step_R01_Cells_0_eq {R : Type} (i0_0 i0_1 i0_2 i0_3 i0_4 : Int) (a0 : SRect) (si0_5 : Int) (sr0_10 : Rows) (kn : St → Option R) (kx : Nat → St → Option R) (kr : V → Option R) (n : Nat) (i0_5 : Int) (r0_10 : Rows) :
    loopN env_R01_Cells 0 (loopAt Tryz.f69 0) (st_R01_Cells_0 i0_0 i0_1 i0_2 i0_3 i0_4 a0 si0_5 sr0_10) kn kx kr (n + 1) (st_R01_Cells_0 i0_0 i0_1 i0_2 i0_3 i0_4 a0 i0_5 r0_10) =
    step_R01_Cells_0 i0_0 i0_1 i0_2 i0_3 i0_4 a0 i0_5 r0_10 (fun yi0_5 yr0_10 => loopN env_R01_Cells 0 (loopAt Tryz.f69 0) (st_R01_Cells_0 i0_0 i0_1 i0_2 i0_3 i0_4 a0 si0_5 sr0_10) kn kx kr n (st_R01_Cells_0 i0_0 i0_1 i0_2 i0_3 i0_4 a0 yi0_5 yr0_10)) (fun yi0_5 yr0_10 => kn (st_R01_Cells_0 i0_0 i0_1 i0_2 i0_3 i0_4 a0 yi0_5 yr0_10)) := by kernel_rfl
theorem loop_R01_Cells_0_eq {R : Type} (i0_0 i0_1 i0_2 i0_3 i0_4 : Int) (a0 : SRect) (si0_5 : Int) (sr0_10 : Rows) (kn : St → Option R) (kx : Nat → St → Option R) (kr : V → Option R) : ∀ (n : Nat) (i0_5 : Int) (r0_10 : Rows),
    loop_R01_Cells_0 i0_0 i0_1 i0_2 i0_3 i0_4 a0 n i0_5 r0_10 (fun yi0_5 yr0_10 => kn (st_R01_Cells_0 i0_0 i0_1 i0_2 i0_3 i0_4 a0 yi0_5 yr0_10)) = loopN env_R01_Cells 0 (loopAt Tryz.f69 0) (st_R01_Cells_0 i0_0 i0_1 i0_2 i0_3 i0_4 a0 si0_5 sr0_10) kn kx kr n (st_R01_Cells_0 i0_0 i0_1 i0_2 i0_3 i0_4 a0 i0_5 r0_10)
  | 0, _, _ => rfl
  | n + 1, i0_5, r0_10 => by
    rw [step_R01_Cells_0_eq, loop_R01_Cells_0]
    congr 1
    funext yi0_5 yr0_10
    exact loop_R01_Cells_0_eq i0_0 i0_1 i0_2 i0_3 i0_4 a0 si0_5 sr0_10 kn kx kr n yi0_5 yr0_10
theorem goodl_R01_Cells_0 {R : Type} {rest} (h : GoodL (R := R) env_R01_Cells 0 (loopAt Tryz.f69 0) rest) : GoodL (R := R) env_R01_Cells 0 (loopAt Tryz.f69 0) (loopAlt shape_R01_Cells_0 hook_R01_Cells_0 rest) := by
  refine goodL_alt (fun l kn kx kr r h => ?_) h
  unfold hook_R01_Cells_0 at h
  split at h
  · rename_i i0_0 i0_1 i0_2 i0_3 i0_4 i0_5 a0_X0 a0_Y0 a0_X1 a0_Y1 r0_10
    exact ⟨_, (loop_R01_Cells_0_eq i0_0 i0_1 i0_2 i0_3 i0_4 (SRect.mk a0_X0 a0_Y0 a0_X1 a0_Y1) i0_5 r0_10 kn kx kr _ i0_5 r0_10).symm.trans h⟩
  · cases h
theorem good_R01_Cells_0 {R : Type} : GoodLoop (R := R) env_R01_Cells 0 (loopAt Tryz.f69 0) := goodL_loop (g := loopAlt shape_R01_Cells_0 hook_R01_Cells_0 loopNil) (fun _ _ _ _ => rfl) (goodl_R01_Cells_0 goodL_nil)
theorem good_R01_Cells_2 {R : Type} : GoodLoop (R := R) env_R01_Cells 2 (loopAt Tryz.f69 1) := goodL_loop (g := loopAlt shape_R01_Cells_2 hook_R01_Cells_2 loopNil) (fun _ _ _ _ => rfl) (goodl_R01_Cells_2 goodL_nil)
noncomputable def spec_R01_Cells {R : Type} (a0 : SRect) (a1 a2 : Int) (k : V → Option R) : Option R :=
 let c1 : Bool := (m_R01_Valid a0)
 bif ((!c1) == false) then
 let c2 : Bool := (m_R01_Empty a0)
 let b3 : Bool := (decide (a1 < (1 : Int)))
 let b4 : Bool := (bif c2 then true else b3)
 let b5 : Bool := (decide (a2 < (1 : Int)))
 let b6 : Bool := (bif b4 then true else b5)
 bif b6 then
 k (V.data SRect.sh [])
 else
 let c7 : Int := (m_R01_FloorDiv a0.X0 a1)
 let c8 : Int := (m_R01_CeilDiv a0.X1 a1)
 let c9 : Int := (m_R01_FloorDiv a0.Y0 a2)
 let c10 : Int := (m_R01_CeilDiv a0.Y1 a2)
 let x11 : Int := (IntKind.wrap .i64 (c8 - c7))
 let x12 : Int := (IntKind.wrap .i64 (c10 - c9))
 let x13 : Int := (IntKind.wrap .i64 (x11 * x12))
 let b14 : Bool := (decide (x13 > (65536 : Int)))
 bif b14 then
 k (V.data SRect.sh [])
 else
 loop_R01_Cells_0 a1 a2 c7 c8 c10 a0 (fuel_R01_Cells_0 a1 a2 c7 c8 c10 c9 a0 []) c9 [] (fun i0_z18 r0_z19 =>
 k (V.data SRect.sh r0_z19))
 else
 k (V.data SRect.sh [])
abbrev av_R01_Cells (a0 : SRect) (a1 a2 : Int) : List V := [(SRect.v a0), (V.int .i64 a1), (V.int .i64 a2)]
theorem spec_R01_Cells_eq {R : Type} (a0 : SRect) (a1 a2 : Int) (k : V → Option R) : fnK env_R01_Cells Tryz.f69 (av_R01_Cells a0 a1 a2) k = spec_R01_Cells a0 a1 a2 k := by kernel_rfl
theorem ok_R01_Cells (h_R01_Valid : G_R01_Valid) (h_R01_Empty : G_R01_Empty) (h_R01_CeilDiv : G_R01_CeilDiv) (h_R01_FloorDiv : G_R01_FloorDiv) (h_R01_Intersect : G_R01_Intersect) (a0 : SRect) (a1 a2 : Int) {v : V} (h : Real (av_R01_Cells a0 a1 a2) → spec_R01_Cells a0 a1 a2 some = some v) : FunOK Tryz.prog 69 (av_R01_Cells a0 a1 a2) v :=
  fn_ok (fn := Tryz.f69) (c := bodyOf Tryz.f69) (E := env_R01_Cells) ⟨by kernel_rfl, (goodCons h_R01_Valid (goodCons h_R01_Empty (goodCons h_R01_CeilDiv (goodCons h_R01_FloorDiv (goodCons h_R01_Intersect goodNil))))), rfl, goodS_no⟩ rfl (by kernel_rfl) (by kernel_rfl) (by kernel_rfl)
  (loopsOK_of _ (by
    have e : loopsOf (bodyOf Tryz.f69) = [(0, loopAt Tryz.f69 0), (2, loopAt Tryz.f69 1)] := by kernel_rfl
    rw [e]
    simp only [List.forall_mem_cons, List.not_mem_nil, false_implies, implies_true, and_true]
    exact ⟨good_R01_Cells_0, good_R01_Cells_2⟩))
  (fun hr => (spec_R01_Cells_eq a0 a1 a2 some).trans (h hr))
theorem mk_R01_Cells (h_R01_Valid : G_R01_Valid) (h_R01_Empty : G_R01_Empty) (h_R01_CeilDiv : G_R01_CeilDiv) (h_R01_FloorDiv : G_R01_FloorDiv) (h_R01_Intersect : G_R01_Intersect) (h : ∀ (a0 : SRect) (a1 a2 : Int), Real (av_R01_Cells a0 a1 a2) → spec_R01_Cells a0 a1 a2 some = some (V.data SRect.sh (m_R01_Cells a0 a1 a2))) : G_R01_Cells := goodHook1 fun l hp => by
  unfold hp_R01_Cells at hp
  split at hp
  · rename_i x0 x1 x2 x3 x4 x5
    exact ok_R01_Cells h_R01_Valid h_R01_Empty h_R01_CeilDiv h_R01_FloorDiv h_R01_Intersect (SRect.mk x0 x1 x2 x3) x4 x5 fun hr => h (SRect.mk x0 x1 x2 x3) x4 x5 hr
  · cases hp
noncomputable def env_R24_Tiles {R : Type} : Env R := ⟨Tryz.prog, callCons 35 c_R23_Header (callCons 69 c_R01_Cells callNil), fun _ _ _ _ _ => none, Tryz.f37.results.toList, maskTab 13 [(0, 0x2), (1, 0x22), (2, 0x4), (3, 0x4)], maskAt [(2, 2), (4, 5), (6, 6)], noSort⟩
noncomputable def spec_R24_Tiles {R : Type} (a0 : SHeader) (k : V → Option R) : Option R :=
 let c1 : Int := (m_R23_Header a0)
 bif (c1 != (0 : Int)) then
 k (V.data SRect.sh [])
 else
 let c2 : Rows := (m_R01_Cells a0.Area a0.TileW a0.TileH)
 k (V.data SRect.sh c2)
abbrev av_R24_Tiles (a0 : SHeader) : List V := [(SHeader.v a0)]
theorem spec_R24_Tiles_eq {R : Type} (a0 : SHeader) (k : V → Option R) : fnK env_R24_Tiles Tryz.f37 (av_R24_Tiles a0) k = spec_R24_Tiles a0 k := by kernel_rfl
theorem ok_R24_Tiles (h_R23_Header : G_R23_Header) (h_R01_Cells : G_R01_Cells) (a0 : SHeader) {v : V} (h : Real (av_R24_Tiles a0) → spec_R24_Tiles a0 some = some v) : FunOK Tryz.prog 37 (av_R24_Tiles a0) v :=
  fn_ok (fn := Tryz.f37) (c := bodyOf Tryz.f37) (E := env_R24_Tiles) ⟨by kernel_rfl, (goodCons h_R23_Header (goodCons h_R01_Cells goodNil)), rfl, goodS_no⟩ rfl (by kernel_rfl) (by kernel_rfl) (by kernel_rfl)
  (loopsOK_of _ (by
    have e : loopsOf (bodyOf Tryz.f37) = [] := by kernel_rfl
    rw [e]
    intro p hp; cases hp))
  (fun hr => (spec_R24_Tiles_eq a0 some).trans (h hr))
theorem mk_R24_Tiles (h_R23_Header : G_R23_Header) (h_R01_Cells : G_R01_Cells) (h : ∀ (a0 : SHeader), Real (av_R24_Tiles a0) → spec_R24_Tiles a0 some = some (V.data SRect.sh (m_R24_Tiles a0))) : G_R24_Tiles := goodHook1 fun l hp => by
  unfold hp_R24_Tiles at hp
  split at hp
  · rename_i x0 x1 x2 x3 x4 x5 x6
    exact ok_R24_Tiles h_R23_Header h_R01_Cells (SHeader.mk (SRect.mk x0 x1 x2 x3) x4 x5 x6) fun hr => h (SHeader.mk (SRect.mk x0 x1 x2 x3) x4 x5 x6) hr
  · cases hp
theorem au_R24_Tiles (a0 : SHeader) : spec_R24_Tiles a0 some = some ((fun (m : Rows) => (V.data SRect.sh m)) (m_R24_Tiles a0)) := by
  repeat' (first | rfl | refine bif_t (v := (fun (m : Rows) => (V.data SRect.sh m))) ?_ ?_)
theorem good_R24_Tiles_of (h_R23_Header : G_R23_Header) (h_R01_Cells : G_R01_Cells) : G_R24_Tiles := mk_R24_Tiles h_R23_Header h_R01_Cells (fun _ _ => au_R24_Tiles _)
noncomputable def env_R23_kinds {R : Type} : Env R := ⟨Tryz.prog, callNil, fun _ _ _ _ _ => none, Tryz.f70.results.toList, maskTab 31 [(0, 0x39ce7382), (1, 0x4)], maskAt [(2, 2)], noSort⟩
noncomputable def spec_R23_kinds {R : Type} (a0 : SParams) (k : V → Option R) : Option R :=
 let b1 : Bool := (decide (a0.Kernel ≥ (1 : Int)))
 let b2 : Bool := (decide (a0.Kernel ≤ (3 : Int)))
 let b3 : Bool := (bif b1 then b2 else false)
 let b4 : Bool := (decide (a0.Color ≥ (0 : Int)))
 let b5 : Bool := (bif b3 then b4 else false)
 let b6 : Bool := (decide (a0.Color ≤ (2 : Int)))
 let b7 : Bool := (bif b5 then b6 else false)
 let b8 : Bool := (decide (a0.Order ≥ (1 : Int)))
 let b9 : Bool := (bif b7 then b8 else false)
 let b10 : Bool := (decide (a0.Order ≤ (5 : Int)))
 let b11 : Bool := (bif b9 then b10 else false)
 k (V.bool b11)
abbrev av_R23_kinds (a0 : SParams) : List V := [(SParams.v a0)]
theorem spec_R23_kinds_eq {R : Type} (a0 : SParams) (k : V → Option R) : fnK env_R23_kinds Tryz.f70 (av_R23_kinds a0) k = spec_R23_kinds a0 k := by kernel_rfl
theorem ok_R23_kinds (a0 : SParams) {v : V} (h : Real (av_R23_kinds a0) → spec_R23_kinds a0 some = some v) : FunOK Tryz.prog 70 (av_R23_kinds a0) v :=
  fn_ok (fn := Tryz.f70) (c := bodyOf Tryz.f70) (E := env_R23_kinds) ⟨by kernel_rfl, goodNil, rfl, goodS_no⟩ rfl (by kernel_rfl) (by kernel_rfl) (by kernel_rfl)
  (loopsOK_of _ (by
    have e : loopsOf (bodyOf Tryz.f70) = [] := by kernel_rfl
    rw [e]
    intro p hp; cases hp))
  (fun hr => (spec_R23_kinds_eq a0 some).trans (h hr))
theorem mk_R23_kinds (h : ∀ (a0 : SParams), Real (av_R23_kinds a0) → spec_R23_kinds a0 some = some (V.bool (m_R23_kinds a0))) : G_R23_kinds := goodHook1 fun l hp => by
  unfold hp_R23_kinds at hp
  split at hp
  · rename_i x0 x1 x2 x3 x4 x5 x6 x7 x8 x9 x10 x11 x12 x13 x14 x15 x16 x17 x18
    exact ok_R23_kinds (SParams.mk x0 x1 x2 x3 x4 x5 x6 x7 (SMode.mk x8 x9 x10 x11 x12) x13 x14 x15 x16 x17 x18) fun hr => h (SParams.mk x0 x1 x2 x3 x4 x5 x6 x7 (SMode.mk x8 x9 x10 x11 x12) x13 x14 x15 x16 x17 x18) hr
  · cases hp
theorem au_R23_kinds (a0 : SParams) : spec_R23_kinds a0 some = some ((fun (m : Bool) => (V.bool m)) (m_R23_kinds a0)) := by
  repeat' (first | rfl | refine bif_t (v := (fun (m : Bool) => (V.bool m))) ?_ ?_)
theorem good_R23_kinds_of : G_R23_kinds := mk_R23_kinds (fun _ _ => au_R23_kinds _)
noncomputable def fuel_R23_numbers_0 (i0_0 : Int) (a0 : SParams) : Nat :=
 let x10 : Int := (((List.length a0.Steps) : Nat) : Int)
 Int.toNat (x10 - i0_0) + 1
noncomputable def step_R23_numbers_0 {R : Type} (a0 : SParams) (i0_0 : Int) (again : Int → Option R) (kn : Int → Option R) (kr : V → Option R) : Option R :=
 let x10 : Int := (((List.length a0.Steps) : Nat) : Int)
 bif (decide (i0_0 < x10)) then
 bif (inR i0_0 (List.length a0.Steps)) then
 let w11 : List V := (List.getD a0.Steps (Int.toNat i0_0) [])
 let x12 : Int := (V.toInt (List.getD w11 0 V.undef))
 let c13 : Bool := (m_R23_in x12 (1 : Int) (65536 : Int))
 bif (!c13) then
 kr (V.bool false)
 else
 let x14 : Int := (IntKind.wrap .i64 (i0_0 + (1 : Int)))
 again x14
 else none
 else
 kn i0_0
noncomputable def loop_R23_numbers_0 {R : Type} (a0 : SParams) : Nat → Int → (Int → Option R) → (V → Option R) → Option R
  | 0, _, _, _ => none
  | n + 1, i0_0, kn, kr => step_R23_numbers_0 a0 i0_0 (fun yi0_0 => loop_R23_numbers_0 a0 n yi0_0 kn kr) kn kr
noncomputable def shape_R23_numbers_0 : ST := ⟨.undef :: .ptr 0 0 0 :: .undef :: .int .i64 :: unds 99 [], [(0, .var SParams.sh false SParams.ts)], 48⟩
noncomputable def st_R23_numbers_0 (a0 : SParams) (i0_0 : Int) : St := shape_R23_numbers_0.put [.i i0_0, .i a0.Kernel, .i a0.Levels, .i a0.Color, .i a0.BlockX, .i a0.BlockY, .r a0.Precincts, .i a0.Order, .i a0.Layers, .b a0.Mode.Bypass, .b a0.Mode.Restart, .b a0.Mode.Reset, .b a0.Mode.Causal, .b a0.Mode.Symbols, .b a0.Divide, .b a0.Sync, .b a0.Fence, .r a0.Steps, .i a0.Dead, .i a0.Shift]
noncomputable def hook_R23_numbers_0 {R : Type} : LoopG R := fun l kn _ kr => match l with
  | .i i0_0 :: .i a0_Kernel :: .i a0_Levels :: .i a0_Color :: .i a0_BlockX :: .i a0_BlockY :: .r a0_Precincts :: .i a0_Order :: .i a0_Layers :: .b a0_Mode_Bypass :: .b a0_Mode_Restart :: .b a0_Mode_Reset :: .b a0_Mode_Causal :: .b a0_Mode_Symbols :: .b a0_Divide :: .b a0_Sync :: .b a0_Fence :: .r a0_Steps :: .i a0_Dead :: .i a0_Shift :: [] => loop_R23_numbers_0 (SParams.mk a0_Kernel a0_Levels a0_Color a0_BlockX a0_BlockY a0_Precincts a0_Order a0_Layers (SMode.mk a0_Mode_Bypass a0_Mode_Restart a0_Mode_Reset a0_Mode_Causal a0_Mode_Symbols) a0_Divide a0_Sync a0_Fence a0_Steps a0_Dead a0_Shift) (fuel_R23_numbers_0 i0_0 (SParams.mk a0_Kernel a0_Levels a0_Color a0_BlockX a0_BlockY a0_Precincts a0_Order a0_Layers (SMode.mk a0_Mode_Bypass a0_Mode_Restart a0_Mode_Reset a0_Mode_Causal a0_Mode_Symbols) a0_Divide a0_Sync a0_Fence a0_Steps a0_Dead a0_Shift)) i0_0 (fun yi0_0 => kn (st_R23_numbers_0 (SParams.mk a0_Kernel a0_Levels a0_Color a0_BlockX a0_BlockY a0_Precincts a0_Order a0_Layers (SMode.mk a0_Mode_Bypass a0_Mode_Restart a0_Mode_Reset a0_Mode_Causal a0_Mode_Symbols) a0_Divide a0_Sync a0_Fence a0_Steps a0_Dead a0_Shift) yi0_0)) kr
  | _ => none
noncomputable def fuel_R23_numbers_2 (i2_0 : Int) (a0 : SParams) : Nat :=
 let x19 : Int := (((List.length a0.Precincts) : Nat) : Int)
 Int.toNat (x19 - i2_0) + 1
noncomputable def step_R23_numbers_2 {R : Type} (a0 : SParams) (i2_0 : Int) (again : Int → Option R) (kn : Int → Option R) (kr : V → Option R) : Option R :=
 let x19 : Int := (((List.length a0.Precincts) : Nat) : Int)
 bif (decide (i2_0 < x19)) then
 bif (inR i2_0 (List.length a0.Precincts)) then
 let w20 : List V := (List.getD a0.Precincts (Int.toNat i2_0) [])
 let x21 : Int := (V.toInt (List.getD w20 0 V.undef))
 let x22 : Int := (bif (decide ((1 : Int) < i2_0)) then (1 : Int) else i2_0)
 let c23 : Bool := (m_R23_in x21 x22 (12 : Int))
 bif ((inR i2_0 (List.length a0.Precincts)) || !((!c23) == false)) then
 let w24 : List V := (List.getD a0.Precincts (Int.toNat i2_0) [])
 let x25 : Int := (V.toInt (List.getD w24 1 V.undef))
 bif ((!c23) == false) then
 let x26 : Int := (bif (decide ((1 : Int) < i2_0)) then (1 : Int) else i2_0)
 let c27 : Bool := (m_R23_in x25 x26 (12 : Int))
 bif (!c27) then
 kr (V.bool false)
 else
 let x28 : Int := (IntKind.wrap .i64 (i2_0 + (1 : Int)))
 again x28
 else
 kr (V.bool false)
 else none
 else none
 else
 kn i2_0
noncomputable def loop_R23_numbers_2 {R : Type} (a0 : SParams) : Nat → Int → (Int → Option R) → (V → Option R) → Option R
  | 0, _, _, _ => none
  | n + 1, i2_0, kn, kr => step_R23_numbers_2 a0 i2_0 (fun yi2_0 => loop_R23_numbers_2 a0 n yi2_0 kn kr) kn kr
noncomputable def shape_R23_numbers_2 : ST := ⟨.undef :: .ptr 0 0 0 :: .undef :: .undef :: .int .i64 :: unds 98 [], [(0, .var SParams.sh false SParams.ts)], 82⟩
noncomputable def st_R23_numbers_2 (a0 : SParams) (i2_0 : Int) : St := shape_R23_numbers_2.put [.i i2_0, .i a0.Kernel, .i a0.Levels, .i a0.Color, .i a0.BlockX, .i a0.BlockY, .r a0.Precincts, .i a0.Order, .i a0.Layers, .b a0.Mode.Bypass, .b a0.Mode.Restart, .b a0.Mode.Reset, .b a0.Mode.Causal, .b a0.Mode.Symbols, .b a0.Divide, .b a0.Sync, .b a0.Fence, .r a0.Steps, .i a0.Dead, .i a0.Shift]
noncomputable def hook_R23_numbers_2 {R : Type} : LoopG R := fun l kn _ kr => match l with
  | .i i2_0 :: .i a0_Kernel :: .i a0_Levels :: .i a0_Color :: .i a0_BlockX :: .i a0_BlockY :: .r a0_Precincts :: .i a0_Order :: .i a0_Layers :: .b a0_Mode_Bypass :: .b a0_Mode_Restart :: .b a0_Mode_Reset :: .b a0_Mode_Causal :: .b a0_Mode_Symbols :: .b a0_Divide :: .b a0_Sync :: .b a0_Fence :: .r a0_Steps :: .i a0_Dead :: .i a0_Shift :: [] => loop_R23_numbers_2 (SParams.mk a0_Kernel a0_Levels a0_Color a0_BlockX a0_BlockY a0_Precincts a0_Order a0_Layers (SMode.mk a0_Mode_Bypass a0_Mode_Restart a0_Mode_Reset a0_Mode_Causal a0_Mode_Symbols) a0_Divide a0_Sync a0_Fence a0_Steps a0_Dead a0_Shift) (fuel_R23_numbers_2 i2_0 (SParams.mk a0_Kernel a0_Levels a0_Color a0_BlockX a0_BlockY a0_Precincts a0_Order a0_Layers (SMode.mk a0_Mode_Bypass a0_Mode_Restart a0_Mode_Reset a0_Mode_Causal a0_Mode_Symbols) a0_Divide a0_Sync a0_Fence a0_Steps a0_Dead a0_Shift)) i2_0 (fun yi2_0 => kn (st_R23_numbers_2 (SParams.mk a0_Kernel a0_Levels a0_Color a0_BlockX a0_BlockY a0_Precincts a0_Order a0_Layers (SMode.mk a0_Mode_Bypass a0_Mode_Restart a0_Mode_Reset a0_Mode_Causal a0_Mode_Symbols) a0_Divide a0_Sync a0_Fence a0_Steps a0_Dead a0_Shift) yi2_0)) kr
  | _ => none
noncomputable def env_R23_numbers {R : Type} : Env R := ⟨Tryz.prog, callCons 65 c_R23_in callNil, fun id => bif Nat.beq id 0 then loopAlt shape_R23_numbers_0 hook_R23_numbers_0 loopNil else (fun id => bif Nat.beq id 2 then loopAlt shape_R23_numbers_2 hook_R23_numbers_2 loopNil else (fun _ _ _ _ _ => none) id) id, Tryz.f71.results.toList, maskTab 103 [(0, 0x3ff00000000000ff3cf3cf3c02), (1, 0x3ff00000000001000000000002), (2, 0x4), (3, 0x3ff0000000000000000000000a), (4, 0x3ff0000000002000000000000a), (5, 0x3ff0000000000000000000000a), (6, 0x3ff0000000400000000000000a), (7, 0x4), (8, 0x3ff00000040000000000000002), (9, 0x4), (10, 0x3ff00002000000000000000002), (11, 0x4), (12, 0x3ff00000000000000000000012), (13, 0x3ff00040000000000000000012), (14, 0x3ff00000000000000000000012), (15, 0x7ff00000000000000000000012), (16, 0x4), (17, 0x4)], maskAt [(1, 48), (2, 2), (4, 46), (5, 82), (6, 47), (8, 52), (10, 65), (12, 57), (14, 64), (16, 68), (18, 72), (20, 73), (22, 80), (24, 81), (26, 86), (28, 114), (30, 91), (32, 113), (34, 117)], noSort⟩
theorem step_R23_numbers_0_eq {R : Type} (a0 : SParams) (si0_0 : Int) (kn : St → Option R) (kx : Nat → St → Option R) (kr : V → Option R) (n : Nat) (i0_0 : Int) :
    loopN env_R23_numbers 0 (loopAt Tryz.f71 0) (st_R23_numbers_0 a0 si0_0) kn kx kr (n + 1) (st_R23_numbers_0 a0 i0_0) =
    step_R23_numbers_0 a0 i0_0 (fun yi0_0 => loopN env_R23_numbers 0 (loopAt Tryz.f71 0) (st_R23_numbers_0 a0 si0_0) kn kx kr n (st_R23_numbers_0 a0 yi0_0)) (fun yi0_0 => kn (st_R23_numbers_0 a0 yi0_0)) kr := by kernel_rfl
theorem loop_R23_numbers_0_eq {R : Type} (a0 : SParams) (si0_0 : Int) (kn : St → Option R) (kx : Nat → St → Option R) (kr : V → Option R) : ∀ (n : Nat) (i0_0 : Int),
    loop_R23_numbers_0 a0 n i0_0 (fun yi0_0 => kn (st_R23_numbers_0 a0 yi0_0)) kr = loopN env_R23_numbers 0 (loopAt Tryz.f71 0) (st_R23_numbers_0 a0 si0_0) kn kx kr n (st_R23_numbers_0 a0 i0_0)
  | 0, _ => rfl
  | n + 1, i0_0 => by
    rw [step_R23_numbers_0_eq, loop_R23_numbers_0]
    congr 1
    funext yi0_0
    exact loop_R23_numbers_0_eq a0 si0_0 kn kx kr n yi0_0
theorem goodl_R23_numbers_0 {R : Type} {rest} (h : GoodL (R := R) env_R23_numbers 0 (loopAt Tryz.f71 0) rest) : GoodL (R := R) env_R23_numbers 0 (loopAt Tryz.f71 0) (loopAlt shape_R23_numbers_0 hook_R23_numbers_0 rest) := by
  refine goodL_alt (fun l kn kx kr r h => ?_) h
  unfold hook_R23_numbers_0 at h
  split at h
  · rename_i i0_0 a0_Kernel a0_Levels a0_Color a0_BlockX a0_BlockY a0_Precincts a0_Order a0_Layers a0_Mode_Bypass a0_Mode_Restart a0_Mode_Reset a0_Mode_Causal a0_Mode_Symbols a0_Divide a0_Sync a0_Fence a0_Steps a0_Dead a0_Shift
    exact ⟨_, (loop_R23_numbers_0_eq (SParams.mk a0_Kernel a0_Levels a0_Color a0_BlockX a0_BlockY a0_Precincts a0_Order a0_Layers (SMode.mk a0_Mode_Bypass a0_Mode_Restart a0_Mode_Reset a0_Mode_Causal a0_Mode_Symbols) a0_Divide a0_Sync a0_Fence a0_Steps a0_Dead a0_Shift) i0_0 kn kx kr _ i0_0).symm.trans h⟩
  · cases h
theorem step_R23_numbers_2_eq {R : Type} (a0 : SParams) (si2_0 : Int) (kn : St → Option R) (kx : Nat → St → Option R) (kr : V → Option R) (n : Nat) (i2_0 : Int) :
    loopN env_R23_numbers 2 (loopAt Tryz.f71 1) (st_R23_numbers_2 a0 si2_0) kn kx kr (n + 1) (st_R23_numbers_2 a0 i2_0) =
    step_R23_numbers_2 a0 i2_0 (fun yi2_0 => loopN env_R23_numbers 2 (loopAt Tryz.f71 1) (st_R23_numbers_2 a0 si2_0) kn kx kr n (st_R23_numbers_2 a0 yi2_0)) (fun yi2_0 => kn (st_R23_numbers_2 a0 yi2_0)) kr := by kernel_rfl
theorem loop_R23_numbers_2_eq {R : Type} (a0 : SParams) (si2_0 : Int) (kn : St → Option R) (kx : Nat → St → Option R) (kr : V → Option R) : ∀ (n : Nat) (i2_0 : Int),
    loop_R23_numbers_2 a0 n i2_0 (fun yi2_0 => kn (st_R23_numbers_2 a0 yi2_0)) kr = loopN env_R23_numbers 2 (loopAt Tryz.f71 1) (st_R23_numbers_2 a0 si2_0) kn kx kr n (st_R23_numbers_2 a0 i2_0)
  | 0, _ => rfl
  | n + 1, i2_0 => by
    rw [step_R23_numbers_2_eq, loop_R23_numbers_2]
    congr 1
    funext yi2_0
    exact loop_R23_numbers_2_eq a0 si2_0 kn kx kr n yi2_0
theorem goodl_R23_numbers_2 {R : Type} {rest} (h : GoodL (R := R) env_R23_numbers 2 (loopAt Tryz.f71 1) rest) : GoodL (R := R) env_R23_numbers 2 (loopAt Tryz.f71 1) (loopAlt shape_R23_numbers_2 hook_R23_numbers_2 rest) := by
  refine goodL_alt (fun l kn kx kr r h => ?_) h
  unfold hook_R23_numbers_2 at h
  split at h
  · rename_i i2_0 a0_Kernel a0_Levels a0_Color a0_BlockX a0_BlockY a0_Precincts a0_Order a0_Layers a0_Mode_Bypass a0_Mode_Restart a0_Mode_Reset a0_Mode_Causal a0_Mode_Symbols a0_Divide a0_Sync a0_Fence a0_Steps a0_Dead a0_Shift
    exact ⟨_, (loop_R23_numbers_2_eq (SParams.mk a0_Kernel a0_Levels a0_Color a0_BlockX a0_BlockY a0_Precincts a0_Order a0_Layers (SMode.mk a0_Mode_Bypass a0_Mode_Restart a0_Mode_Reset a0_Mode_Causal a0_Mode_Symbols) a0_Divide a0_Sync a0_Fence a0_Steps a0_Dead a0_Shift) i2_0 kn kx kr _ i2_0).symm.trans h⟩
  · cases h
theorem good_R23_numbers_0 {R : Type} : GoodLoop (R := R) env_R23_numbers 0 (loopAt Tryz.f71 0) := goodL_loop (g := loopAlt shape_R23_numbers_0 hook_R23_numbers_0 loopNil) (fun _ _ _ _ => rfl) (goodl_R23_numbers_0 goodL_nil)
theorem good_R23_numbers_2 {R : Type} : GoodLoop (R := R) env_R23_numbers 2 (loopAt Tryz.f71 1) := goodL_loop (g := loopAlt shape_R23_numbers_2 hook_R23_numbers_2 loopNil) (fun _ _ _ _ => rfl) (goodl_R23_numbers_2 goodL_nil)
noncomputable def spec_R23_numbers {R : Type} (a0 : SParams) (k : V → Option R) : Option R :=
 let c1 : Bool := (m_R23_in a0.Levels (0 : Int) (5 : Int))
 bif ((!c1) == false) then
 let c2 : Bool := (m_R23_in a0.BlockX (2 : Int) (6 : Int))
 bif ((!c2) == false) then
 let c3 : Bool := (m_R23_in a0.BlockY (2 : Int) (6 : Int))
 bif ((!c3) == false) then
 let c4 : Bool := (m_R23_in a0.Layers (1 : Int) (16 : Int))
 bif ((!c4) == false) then
 let c5 : Bool := (m_R23_in a0.Dead (8 : Int) (32 : Int))
 bif ((!c5) == false) then
 let c6 : Bool := (m_R23_in a0.Shift (0 : Int) (30 : Int))
 bif ((!c6) == false) then
 let x7 : Int := (((List.length a0.Steps) : Nat) : Int)
 let x8 : Int := (IntKind.wrap .i64 ((3 : Int) * a0.Levels))
 let x9 : Int := (IntKind.wrap .i64 (x8 + (1 : Int)))
 bif (x7 != x9) then
 k (V.bool false)
 else
 loop_R23_numbers_0 a0 (fuel_R23_numbers_0 (0 : Int) a0) (0 : Int) (fun i0_z15 =>
 let x16 : Int := (((List.length a0.Precincts) : Nat) : Int)
 bif (x16 == (0 : Int)) then
 k (V.bool true)
 else
 let x17 : Int := (((List.length a0.Precincts) : Nat) : Int)
 let x18 : Int := (IntKind.wrap .i64 (a0.Levels + (1 : Int)))
 bif (x17 != x18) then
 k (V.bool false)
 else
 loop_R23_numbers_2 a0 (fuel_R23_numbers_2 (0 : Int) a0) (0 : Int) (fun i2_z29 =>
 k (V.bool true)) k) k
 else
 k (V.bool false)
 else
 k (V.bool false)
 else
 k (V.bool false)
 else
 k (V.bool false)
 else
 k (V.bool false)
 else
 k (V.bool false)
abbrev av_R23_numbers (a0 : SParams) : List V := [(SParams.v a0)]
theorem spec_R23_numbers_eq {R : Type} (a0 : SParams) (k : V → Option R) : fnK env_R23_numbers Tryz.f71 (av_R23_numbers a0) k = spec_R23_numbers a0 k := by kernel_rfl
theorem ok_R23_numbers (h_R23_in : G_R23_in) (a0 : SParams) {v : V} (h : Real (av_R23_numbers a0) → spec_R23_numbers a0 some = some v) : FunOK Tryz.prog 71 (av_R23_numbers a0) v :=
  fn_ok (fn := Tryz.f71) (c := bodyOf Tryz.f71) (E := env_R23_numbers) ⟨by kernel_rfl, (goodCons h_R23_in goodNil), rfl, goodS_no⟩ rfl (by kernel_rfl) (by kernel_rfl) (by kernel_rfl)
  (loopsOK_of _ (by
    have e : loopsOf (bodyOf Tryz.f71) = [(0, loopAt Tryz.f71 0), (2, loopAt Tryz.f71 1)] := by kernel_rfl
    rw [e]
    simp only [List.forall_mem_cons, List.not_mem_nil, false_implies, implies_true, and_true]
    exact ⟨good_R23_numbers_0, good_R23_numbers_2⟩))
  (fun hr => (spec_R23_numbers_eq a0 some).trans (h hr))
theorem mk_R23_numbers (h_R23_in : G_R23_in) (h : ∀ (a0 : SParams), Real (av_R23_numbers a0) → spec_R23_numbers a0 some = some (V.bool (m_R23_numbers a0))) : G_R23_numbers := goodHook1 fun l hp => by
  unfold hp_R23_numbers at hp
  split at hp
  · rename_i x0 x1 x2 x3 x4 x5 x6 x7 x8 x9 x10 x11 x12 x13 x14 x15 x16 x17 x18
    exact ok_R23_numbers h_R23_in (SParams.mk x0 x1 x2 x3 x4 x5 x6 x7 (SMode.mk x8 x9 x10 x11 x12) x13 x14 x15 x16 x17 x18) fun hr => h (SParams.mk x0 x1 x2 x3 x4 x5 x6 x7 (SMode.mk x8 x9 x10 x11 x12) x13 x14 x15 x16 x17 x18) hr
  · cases hp
noncomputable def env_R23_Precinct {R : Type} : Env R := ⟨Tryz.prog, callNil, fun _ _ _ _ _ => none, Tryz.f113.results.toList, maskTab 30 [(0, 0xf16), (1, 0x1016), (2, 0x10), (3, 0x20016), (4, 0x10), (5, 0x800016), (6, 0x10), (7, 0x10)], maskAt [(2, 2), (4, 10), (6, 12), (8, 16), (10, 18), (12, 23), (14, 25)], noSort⟩
noncomputable def spec_R23_Precinct {R : Type} (a0 : SParams) (a1 : Int) (k : V → Option R) : Option R :=
 let b1 : Bool := (decide (a1 < (0 : Int)))
 let b2 : Bool := (decide (a1 > a0.Levels))
 let b3 : Bool := (bif b1 then true else b2)
 bif b3 then
 k (V.agg [(V.int .i64 (0 : Int)), (V.int .i64 (0 : Int))])
 else
 let x4 : Int := (((List.length a0.Precincts) : Nat) : Int)
 bif (x4 == (0 : Int)) then
 k (V.agg [(V.int .i64 (12 : Int)), (V.int .i64 (12 : Int))])
 else
 let x5 : Int := (((List.length a0.Precincts) : Nat) : Int)
 bif (decide (a1 ≥ x5)) then
 k (V.agg [(V.int .i64 (0 : Int)), (V.int .i64 (0 : Int))])
 else
 bif (inR a1 (List.length a0.Precincts)) then
 let w6 : List V := (List.getD a0.Precincts (Int.toNat a1) [])
 let s7 : SPoint := (SPoint.of w6)
 k (SPoint.v s7)
 else none
abbrev av_R23_Precinct (a0 : SParams) (a1 : Int) : List V := [(SParams.v a0), (V.int .i64 a1)]
theorem spec_R23_Precinct_eq {R : Type} (a0 : SParams) (a1 : Int) (k : V → Option R) : fnK env_R23_Precinct Tryz.f113 (av_R23_Precinct a0 a1) k = spec_R23_Precinct a0 a1 k := by kernel_rfl
theorem ok_R23_Precinct (a0 : SParams) (a1 : Int) {v : V} (h : Real (av_R23_Precinct a0 a1) → spec_R23_Precinct a0 a1 some = some v) : FunOK Tryz.prog 113 (av_R23_Precinct a0 a1) v :=
  fn_ok (fn := Tryz.f113) (c := bodyOf Tryz.f113) (E := env_R23_Precinct) ⟨by kernel_rfl, goodNil, rfl, goodS_no⟩ rfl (by kernel_rfl) (by kernel_rfl) (by kernel_rfl)
  (loopsOK_of _ (by
    have e : loopsOf (bodyOf Tryz.f113) = [] := by kernel_rfl
    rw [e]
    intro p hp; cases hp))
  (fun hr => (spec_R23_Precinct_eq a0 a1 some).trans (h hr))
theorem mk_R23_Precinct (h : ∀ (a0 : SParams) (a1 : Int), Real (av_R23_Precinct a0 a1) → spec_R23_Precinct a0 a1 some = some (SPoint.v (m_R23_Precinct a0 a1))) : G_R23_Precinct := goodHook1 fun l hp => by
  unfold hp_R23_Precinct at hp
  split at hp
  · rename_i x0 x1 x2 x3 x4 x5 x6 x7 x8 x9 x10 x11 x12 x13 x14 x15 x16 x17 x18 x19
    exact ok_R23_Precinct (SParams.mk x0 x1 x2 x3 x4 x5 x6 x7 (SMode.mk x8 x9 x10 x11 x12) x13 x14 x15 x16 x17 x18) x19 fun hr => h (SParams.mk x0 x1 x2 x3 x4 x5 x6 x7 (SMode.mk x8 x9 x10 x11 x12) x13 x14 x15 x16 x17 x18) x19 hr
  · cases hp
theorem au_R23_Precinct (a0 : SParams) (a1 : Int) : pre_R23_Precinct a0 a1 = true → spec_R23_Precinct a0 a1 some = some ((fun (m : SPoint) => (SPoint.v m)) (m_R23_Precinct a0 a1)) := by
  repeat' (first | exact fun _ => rfl | exact fun h => absurd h (by decide) | refine bif_p (v := (fun (m : SPoint) => (SPoint.v m))) ?_ ?_)
theorem good_R23_Precinct_of : G_R23_Precinct := mk_R23_Precinct (fun _ _ _ => au_R23_Precinct _ _ (pt_R23_Precinct _ _))
noncomputable def env_R23_Grid {R : Type} : Env R := ⟨Tryz.prog, callCons 64 c_R01_Empty (callCons 110 c_R01_CeilDiv (callCons 111 c_R01_FloorDiv callNil)), fun _ _ _ _ _ => none, Tryz.f114.results.toList, maskTab 36 [(0, 0xe), (1, 0x40e), (2, 0x40), (3, 0x8c), (4, 0x180), (5, 0x40)], maskAt [(2, 2), (4, 4), (6, 5), (8, 17), (10, 29)], noSort⟩
noncomputable def spec_R23_Grid {R : Type} (a0 : SRect) (a1 a2 : Int) (k : V → Option R) : Option R :=
 let c1 : Bool := (m_R01_Empty a0)
 bif c1 then
 k (V.int .i64 (0 : Int))
 else
 bif (decide ((0 : Int) ≤ a1)) then
 let x2 : Int := (IntKind.wrap .i64 ((1 : Int) * 2 ^ (min (Int.toNat a1) 64)))
 let c3 : Int := (m_R01_CeilDiv a0.X1 x2)
 bif (decide ((0 : Int) ≤ a1)) then
 let x4 : Int := (IntKind.wrap .i64 ((1 : Int) * 2 ^ (min (Int.toNat a1) 64)))
 let c5 : Int := (m_R01_FloorDiv a0.X0 x4)
 let x6 : Int := (IntKind.wrap .i64 (c3 - c5))
 bif (decide ((0 : Int) ≤ a2)) then
 let x7 : Int := (IntKind.wrap .i64 ((1 : Int) * 2 ^ (min (Int.toNat a2) 64)))
 let c8 : Int := (m_R01_CeilDiv a0.Y1 x7)
 bif (decide ((0 : Int) ≤ a2)) then
 let x9 : Int := (IntKind.wrap .i64 ((1 : Int) * 2 ^ (min (Int.toNat a2) 64)))
 let c10 : Int := (m_R01_FloorDiv a0.Y0 x9)
 let x11 : Int := (IntKind.wrap .i64 (c8 - c10))
 let x12 : Int := (IntKind.wrap .i64 (x6 * x11))
 k (V.int .i64 x12)
 else none
 else none
 else none
 else none
abbrev av_R23_Grid (a0 : SRect) (a1 a2 : Int) : List V := [(SRect.v a0), (V.int .i64 a1), (V.int .i64 a2)]
theorem spec_R23_Grid_eq {R : Type} (a0 : SRect) (a1 a2 : Int) (k : V → Option R) : fnK env_R23_Grid Tryz.f114 (av_R23_Grid a0 a1 a2) k = spec_R23_Grid a0 a1 a2 k := by kernel_rfl
theorem ok_R23_Grid (h_R01_Empty : G_R01_Empty) (h_R01_CeilDiv : G_R01_CeilDiv) (h_R01_FloorDiv : G_R01_FloorDiv) (a0 : SRect) (a1 a2 : Int) {v : V} (h : Real (av_R23_Grid a0 a1 a2) → spec_R23_Grid a0 a1 a2 some = some v) : FunOK Tryz.prog 114 (av_R23_Grid a0 a1 a2) v :=
  fn_ok (fn := Tryz.f114) (c := bodyOf Tryz.f114) (E := env_R23_Grid) ⟨by kernel_rfl, (goodCons h_R01_Empty (goodCons h_R01_CeilDiv (goodCons h_R01_FloorDiv goodNil))), rfl, goodS_no⟩ rfl (by kernel_rfl) (by kernel_rfl) (by kernel_rfl)
  (loopsOK_of _ (by
    have e : loopsOf (bodyOf Tryz.f114) = [] := by kernel_rfl
    rw [e]
    intro p hp; cases hp))
  (fun hr => (spec_R23_Grid_eq a0 a1 a2 some).trans (h hr))
theorem mk_R23_Grid (h_R01_Empty : G_R01_Empty) (h_R01_CeilDiv : G_R01_CeilDiv) (h_R01_FloorDiv : G_R01_FloorDiv) (h : ∀ (a0 : SRect) (a1 a2 : Int), pre_R23_Grid a0 a1 a2 = true → Real (av_R23_Grid a0 a1 a2) → spec_R23_Grid a0 a1 a2 some = some (V.int .i64 (m_R23_Grid a0 a1 a2))) : G_R23_Grid := goodHook1 fun l hp => by
  unfold hp_R23_Grid at hp
  split at hp
  · rename_i x0 x1 x2 x3 x4 x5
    exact ok_R23_Grid h_R01_Empty h_R01_CeilDiv h_R01_FloorDiv (SRect.mk x0 x1 x2 x3) x4 x5 fun hr => h (SRect.mk x0 x1 x2 x3) x4 x5 hp hr
  · cases hp
theorem au_R23_Grid (a0 : SRect) (a1 a2 : Int) : pre_R23_Grid a0 a1 a2 = true → spec_R23_Grid a0 a1 a2 some = some ((fun (m : Int) => (V.int .i64 m)) (m_R23_Grid a0 a1 a2)) := by
  repeat' (first | exact fun _ => rfl | exact fun h => absurd h (by decide) | refine bif_p (v := (fun (m : Int) => (V.int .i64 m))) ?_ ?_)
theorem good_R23_Grid_of (h_R01_Empty : G_R01_Empty) (h_R01_CeilDiv : G_R01_CeilDiv) (h_R01_FloorDiv : G_R01_FloorDiv) : G_R23_Grid := mk_R23_Grid h_R01_Empty h_R01_CeilDiv h_R01_FloorDiv (fun _ _ _ hp _ => au_R23_Grid _ _ _ hp)
noncomputable def env_R06_Count {R : Type} : Env R := ⟨Tryz.prog, callNil, fun _ _ _ _ _ => none, Tryz.f151.results.toList, maskTab 12 [(0, 0xc1), (1, 0x101), (2, 0x4), (3, 0x4)], maskAt [(2, 1), (4, 7), (6, 8)], noSort⟩
noncomputable def spec_R06_Count {R : Type} (a0 : Int) (k : V → Option R) : Option R :=
 let b1 : Bool := (decide (a0 < (0 : Int)))
 let b2 : Bool := (decide (a0 > (5 : Int)))
 let b3 : Bool := (bif b1 then true else b2)
 bif b3 then
 k (V.int .i64 (0 : Int))
 else
 let x4 : Int := (IntKind.wrap .i64 ((3 : Int) * a0))
 let x5 : Int := (IntKind.wrap .i64 (x4 + (1 : Int)))
 k (V.int .i64 x5)
abbrev av_R06_Count (a0 : Int) : List V := [(V.int .i64 a0)]
theorem spec_R06_Count_eq {R : Type} (a0 : Int) (k : V → Option R) : fnK env_R06_Count Tryz.f151 (av_R06_Count a0) k = spec_R06_Count a0 k := by kernel_rfl
theorem ok_R06_Count (a0 : Int) {v : V} (h : Real (av_R06_Count a0) → spec_R06_Count a0 some = some v) : FunOK Tryz.prog 151 (av_R06_Count a0) v :=
  fn_ok (fn := Tryz.f151) (c := bodyOf Tryz.f151) (E := env_R06_Count) ⟨by kernel_rfl, goodNil, rfl, goodS_no⟩ rfl (by kernel_rfl) (by kernel_rfl) (by kernel_rfl)
  (loopsOK_of _ (by
    have e : loopsOf (bodyOf Tryz.f151) = [] := by kernel_rfl
    rw [e]
    intro p hp; cases hp))
  (fun hr => (spec_R06_Count_eq a0 some).trans (h hr))
theorem mk_R06_Count (h : ∀ (a0 : Int), Real (av_R06_Count a0) → spec_R06_Count a0 some = some (V.int .i64 (m_R06_Count a0))) : G_R06_Count := goodHook1 fun l hp => by
  unfold hp_R06_Count at hp
  split at hp
  · rename_i x0
    exact ok_R06_Count x0 fun hr => h x0 hr
  · cases hp
theorem au_R06_Count (a0 : Int) : spec_R06_Count a0 some = some ((fun (m : Int) => (V.int .i64 m)) (m_R06_Count a0)) := by
  repeat' (first | rfl | refine bif_t (v := (fun (m : Int) => (V.int .i64 m))) ?_ ?_)
theorem good_R06_Count_of : G_R06_Count := mk_R06_Count (fun _ _ => au_R06_Count _)
end Go.Vm
