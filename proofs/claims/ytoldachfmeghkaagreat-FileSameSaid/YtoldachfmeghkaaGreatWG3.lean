import Derived.Test.YtoldachfmeghkaaGreatWC
set_option linter.unusedVariables false
set_option linter.unusedSimpArgs false
set_option maxRecDepth 100000
noncomputable section
namespace Go.Vm
open Go.Proofs
noncomputable def fuel_R29_ParseSize_0 (i0_0 : Int) (r0_1 : Rows) (i0_2 i0_3 i0_4 i0_5 i0_6 i0_7 i0_8 i0_9 i0_10 i0_11 i0_12 i0_13 i0_14 : Int) (r0_15 r0_16 : Rows) : Nat :=
 Int.toNat (i0_0 - i0_2) + 1
noncomputable def step_R29_ParseSize_0 {R : Type} (i0_0 : Int) (r0_1 : Rows) (i0_3 i0_4 i0_5 i0_6 i0_7 i0_8 i0_9 i0_10 i0_11 i0_12 i0_13 i0_14 : Int) (r0_15 : Rows) (i0_2 : Int) (r0_16 : Rows) (again : Int → Rows → Option R) (kn : Int → Rows → Option R) : Option R :=
 bif (decide (i0_2 < i0_0)) then
 bif (inR i0_2 (List.length r0_1)) then
 let w14 : List V := (List.getD r0_1 (Int.toNat i0_2) [])
 let x15 : Int := (V.toInt (List.getD w14 0 V.undef))
 let x16 : Int := (Int.tmod (IntKind.wrap .i64 x15) (128 : Int))
 let x17 : Int := (IntKind.wrap .i64 (x16 + (1 : Int)))
 bif (inR i0_2 (List.length r0_1)) then
 let w18 : List V := (List.getD r0_1 (Int.toNat i0_2) [])
 let x19 : Int := (V.toInt (List.getD w18 0 V.undef))
 let b20 : Bool := (decide (x19 ≥ (128 : Int)))
 let x21 : Int := (IntKind.wrap .i64 (i0_2 + (1 : Int)))
 bif (inR x21 (List.length r0_1)) then
 let w22 : List V := (List.getD r0_1 (Int.toNat x21) [])
 let x23 : Int := (V.toInt (List.getD w22 0 V.undef))
 let x24 : Int := (IntKind.wrap .i64 (i0_2 + (2 : Int)))
 bif (inR x24 (List.length r0_1)) then
 let w25 : List V := (List.getD r0_1 (Int.toNat x24) [])
 let x26 : Int := (V.toInt (List.getD w25 0 V.undef))
 bif (roomOK ((List.length r0_16) + (1 : Nat)) 32) then
 let r27 : Rows := (r0_16 ++ [[(V.int .i64 x17), (V.bool b20), (V.int .i64 (IntKind.wrap .i64 x23)), (V.int .i64 (IntKind.wrap .i64 x26))]])
 let x28 : Int := (IntKind.wrap .i64 (i0_2 + (3 : Int)))
 again x28 r27
 else none
 else none
 else none
 else none
 else none
 else
 kn i0_2 r0_16
noncomputable def loop_R29_ParseSize_0 {R : Type} (i0_0 : Int) (r0_1 : Rows) (i0_3 i0_4 i0_5 i0_6 i0_7 i0_8 i0_9 i0_10 i0_11 i0_12 i0_13 i0_14 : Int) (r0_15 : Rows) : Nat → Int → Rows → (Int → Rows → Option R) → Option R
  | 0, _, _, _ => none
  | n + 1, i0_2, r0_16, kn => step_R29_ParseSize_0 i0_0 r0_1 i0_3 i0_4 i0_5 i0_6 i0_7 i0_8 i0_9 i0_10 i0_11 i0_12 i0_13 i0_14 r0_15 i0_2 r0_16 (fun yi0_2 yr0_16 => loop_R29_ParseSize_0 i0_0 r0_1 i0_3 i0_4 i0_5 i0_6 i0_7 i0_8 i0_9 i0_10 i0_11 i0_12 i0_13 i0_14 r0_15 n yi0_2 yr0_16 kn) kn
noncomputable def shape_R29_ParseSize_0 : ST := ⟨.undef :: .undef :: .ptr 1 0 0 :: .undef :: .int .i64 :: .undef :: .data [.int .u8] :: .ptr 44 0 0 :: .int .i64 :: unds 77 [], [(1, .var SHeader.sh false [.int .i64, .int .i64, .int .i64, .int .i64, .int .i64, .int .i64, .vs 47]), (44, .var SHeader.sh false [.int .i64, .int .i64, .int .i64, .int .i64, .int .i64, .int .i64, .vs 48]), (47, .vec SComponent.sh false), (48, .vec SComponent.sh false)], 49⟩
noncomputable def st_R29_ParseSize_0 (i0_0 : Int) (r0_1 : Rows) (i0_3 i0_4 i0_5 i0_6 i0_7 i0_8 i0_9 i0_10 i0_11 i0_12 i0_13 i0_14 : Int) (r0_15 : Rows) (i0_2 : Int) (r0_16 : Rows) : St := shape_R29_ParseSize_0.put [.i i0_0, .r r0_1, .i i0_2, .i i0_3, .i i0_4, .i i0_5, .i i0_6, .i i0_7, .i i0_8, .i i0_9, .i i0_10, .i i0_11, .i i0_12, .i i0_13, .i i0_14, .r r0_15, .r r0_16]
noncomputable def hook_R29_ParseSize_0 {R : Type} : LoopG R := fun l kn _ _ => match l with
  | .i i0_0 :: .r r0_1 :: .i i0_2 :: .i i0_3 :: .i i0_4 :: .i i0_5 :: .i i0_6 :: .i i0_7 :: .i i0_8 :: .i i0_9 :: .i i0_10 :: .i i0_11 :: .i i0_12 :: .i i0_13 :: .i i0_14 :: .r r0_15 :: .r r0_16 :: [] => loop_R29_ParseSize_0 i0_0 r0_1 i0_3 i0_4 i0_5 i0_6 i0_7 i0_8 i0_9 i0_10 i0_11 i0_12 i0_13 i0_14 r0_15 (fuel_R29_ParseSize_0 i0_0 r0_1 i0_2 i0_3 i0_4 i0_5 i0_6 i0_7 i0_8 i0_9 i0_10 i0_11 i0_12 i0_13 i0_14 r0_15 r0_16) i0_2 r0_16 (fun yi0_2 yr0_16 => kn (st_R29_ParseSize_0 i0_0 r0_1 i0_3 i0_4 i0_5 i0_6 i0_7 i0_8 i0_9 i0_10 i0_11 i0_12 i0_13 i0_14 r0_15 yi0_2 yr0_16))
  | _ => none
noncomputable def shape_R29_ParseSize_0x1 : ST := ⟨.undef :: .undef :: .ptr 1 0 0 :: .undef :: .lit .i64 13 :: .undef :: .data [.int .u8] :: .ptr 44 0 0 :: .lit .i64 13 :: unds 77 [], [(1, .var SHeader.sh false [.lit .i64 0, .lit .i64 0, .lit .i64 0, .lit .i64 0, .lit .i64 0, .lit .i64 0, .vs 47]), (44, .var SHeader.sh false [.int .i64, .int .i64, .int .i64, .int .i64, .int .i64, .int .i64, .vs 48]), (47, .vec SComponent.sh false), (48, .vec SComponent.sh false)], 49⟩
noncomputable def un_R29_ParseSize_0x1 {R : Type} (r0_0 : Rows) (i0_1 i0_2 i0_3 i0_4 i0_5 i0_6 : Int) (r0_7 r0_8 : Rows) (kn : St → Option R) (kr : V → Option R) : Option R :=
 kn ⟨[V.undef, V.undef, (V.ptr 1 (0 : Nat) 0), V.undef, (V.int .i64 (13 : Int)), V.undef, (V.data [.int .u8] r0_0), (V.ptr 44 (0 : Nat) 0), (V.int .i64 (13 : Int)), V.undef, V.undef, V.undef, V.undef, V.undef, V.undef, V.undef, V.undef, V.undef, V.undef, V.undef, V.undef, V.undef, V.undef, V.undef, V.undef, V.undef, V.undef, V.undef, V.undef, V.undef, V.undef, V.undef, V.undef, V.undef, V.undef, V.undef, V.undef, V.undef, V.undef, V.undef, V.undef, V.undef, V.undef, V.undef, V.undef, V.undef, V.undef, V.undef, V.undef, V.undef, V.undef, V.undef, V.undef, V.undef, V.undef, V.undef, V.undef, V.undef, V.undef, V.undef, V.undef, V.undef, V.undef, V.undef, V.undef, V.undef, V.undef, V.undef, V.undef, V.undef, V.undef, V.undef, V.undef, V.undef, V.undef, V.undef, V.undef, V.undef, V.undef, V.undef, V.undef, V.undef, V.undef, V.undef, V.undef, V.undef], [(1, ⟨false, SHeader.sh, [[(V.int .i64 (0 : Int)), (V.int .i64 (0 : Int)), (V.int .i64 (0 : Int)), (V.int .i64 (0 : Int)), (V.int .i64 (0 : Int)), (V.int .i64 (0 : Int)), (V.vs 47)]], false⟩), (44, ⟨false, SHeader.sh, [[(V.int .i64 i0_1), (V.int .i64 i0_2), (V.int .i64 i0_3), (V.int .i64 i0_4), (V.int .i64 i0_5), (V.int .i64 i0_6), (V.vs 48)]], false⟩), (47, ⟨true, SComponent.sh, r0_7, false⟩), (48, ⟨true, SComponent.sh, r0_8, false⟩)], 49⟩
noncomputable def hook_R29_ParseSize_0x1 {R : Type} : LoopG R := fun l kn _ kr => match l with
  | .r r0_0 :: .i i0_1 :: .i i0_2 :: .i i0_3 :: .i i0_4 :: .i i0_5 :: .i i0_6 :: .r r0_7 :: .r r0_8 :: [] => un_R29_ParseSize_0x1 r0_0 i0_1 i0_2 i0_3 i0_4 i0_5 i0_6 r0_7 r0_8 kn kr
  | _ => none
noncomputable def env_R29_ParseSize {R : Type} : Env R := ⟨Tryz.prog, callCons 33 c_R29_framed (callCons 34 c_R29_get (callCons 35 c_R23_Header callNil)), fun id => bif Nat.beq id 0 then loopAlt shape_R29_ParseSize_0 hook_R29_ParseSize_0 (loopAlt shape_R29_ParseSize_0x1 hook_R29_ParseSize_0x1 loopNil) else (fun _ _ _ _ _ => none) id, Tryz.f16.results.toList, maskTab 86 [(0, 0x6), (1, 0x16), (2, 0x1016), (3, 0x16), (4, 0x36), (5, 0x2000036), (6, 0xc), (7, 0x54), (8, 0xd4), (9, 0x1d4), (10, 0x4000000001d4), (11, 0x1d4), (12, 0x1d4), (13, 0xa4), (14, 0x4000000000000000000a4), (15, 0xc), (16, 0xc)], maskAt [(1, 47), (2, 3), (4, 4), (6, 8), (8, 17), (10, 21), (12, 23), (14, 27), (16, 30), (18, 46), (20, 51), (22, 85), (24, 54), (26, 88), (28, 91), (30, 93), (32, 97)], noSort⟩
theorem step_R29_ParseSize_0_eq {R : Type} (i0_0 : Int) (r0_1 : Rows) (i0_3 i0_4 i0_5 i0_6 i0_7 i0_8 i0_9 i0_10 i0_11 i0_12 i0_13 i0_14 : Int) (r0_15 : Rows) (si0_2 : Int) (sr0_16 : Rows) (kn : St → Option R) (kx : Nat → St → Option R) (kr : V → Option R) (n : Nat) (i0_2 : Int) (r0_16 : Rows) :
    loopN env_R29_ParseSize 0 (loopAt Tryz.f16 0) (st_R29_ParseSize_0 i0_0 r0_1 i0_3 i0_4 i0_5 i0_6 i0_7 i0_8 i0_9 i0_10 i0_11 i0_12 i0_13 i0_14 r0_15 si0_2 sr0_16) kn kx kr (n + 1) (st_R29_ParseSize_0 i0_0 r0_1 i0_3 i0_4 i0_5 i0_6 i0_7 i0_8 i0_9 i0_10 i0_11 i0_12 i0_13 i0_14 r0_15 i0_2 r0_16) =
    step_R29_ParseSize_0 i0_0 r0_1 i0_3 i0_4 i0_5 i0_6 i0_7 i0_8 i0_9 i0_10 i0_11 i0_12 i0_13 i0_14 r0_15 i0_2 r0_16 (fun yi0_2 yr0_16 => loopN env_R29_ParseSize 0 (loopAt Tryz.f16 0) (st_R29_ParseSize_0 i0_0 r0_1 i0_3 i0_4 i0_5 i0_6 i0_7 i0_8 i0_9 i0_10 i0_11 i0_12 i0_13 i0_14 r0_15 si0_2 sr0_16) kn kx kr n (st_R29_ParseSize_0 i0_0 r0_1 i0_3 i0_4 i0_5 i0_6 i0_7 i0_8 i0_9 i0_10 i0_11 i0_12 i0_13 i0_14 r0_15 yi0_2 yr0_16)) (fun yi0_2 yr0_16 => kn (st_R29_ParseSize_0 i0_0 r0_1 i0_3 i0_4 i0_5 i0_6 i0_7 i0_8 i0_9 i0_10 i0_11 i0_12 i0_13 i0_14 r0_15 yi0_2 yr0_16)) := by kernel_rfl
theorem loop_R29_ParseSize_0_eq {R : Type} (i0_0 : Int) (r0_1 : Rows) (i0_3 i0_4 i0_5 i0_6 i0_7 i0_8 i0_9 i0_10 i0_11 i0_12 i0_13 i0_14 : Int) (r0_15 : Rows) (si0_2 : Int) (sr0_16 : Rows) (kn : St → Option R) (kx : Nat → St → Option R) (kr : V → Option R) : ∀ (n : Nat) (i0_2 : Int) (r0_16 : Rows),
    loop_R29_ParseSize_0 i0_0 r0_1 i0_3 i0_4 i0_5 i0_6 i0_7 i0_8 i0_9 i0_10 i0_11 i0_12 i0_13 i0_14 r0_15 n i0_2 r0_16 (fun yi0_2 yr0_16 => kn (st_R29_ParseSize_0 i0_0 r0_1 i0_3 i0_4 i0_5 i0_6 i0_7 i0_8 i0_9 i0_10 i0_11 i0_12 i0_13 i0_14 r0_15 yi0_2 yr0_16)) = loopN env_R29_ParseSize 0 (loopAt Tryz.f16 0) (st_R29_ParseSize_0 i0_0 r0_1 i0_3 i0_4 i0_5 i0_6 i0_7 i0_8 i0_9 i0_10 i0_11 i0_12 i0_13 i0_14 r0_15 si0_2 sr0_16) kn kx kr n (st_R29_ParseSize_0 i0_0 r0_1 i0_3 i0_4 i0_5 i0_6 i0_7 i0_8 i0_9 i0_10 i0_11 i0_12 i0_13 i0_14 r0_15 i0_2 r0_16)
  | 0, _, _ => rfl
  | n + 1, i0_2, r0_16 => by
    rw [step_R29_ParseSize_0_eq, loop_R29_ParseSize_0]
    congr 1
    funext yi0_2 yr0_16
    exact loop_R29_ParseSize_0_eq i0_0 r0_1 i0_3 i0_4 i0_5 i0_6 i0_7 i0_8 i0_9 i0_10 i0_11 i0_12 i0_13 i0_14 r0_15 si0_2 sr0_16 kn kx kr n yi0_2 yr0_16
theorem goodl_R29_ParseSize_0 {R : Type} {rest} (h : GoodL (R := R) env_R29_ParseSize 0 (loopAt Tryz.f16 0) rest) : GoodL (R := R) env_R29_ParseSize 0 (loopAt Tryz.f16 0) (loopAlt shape_R29_ParseSize_0 hook_R29_ParseSize_0 rest) := by
  refine goodL_alt (fun l kn kx kr r h => ?_) h
  unfold hook_R29_ParseSize_0 at h
  split at h
  · rename_i i0_0 r0_1 i0_2 i0_3 i0_4 i0_5 i0_6 i0_7 i0_8 i0_9 i0_10 i0_11 i0_12 i0_13 i0_14 r0_15 r0_16
    exact ⟨_, (loop_R29_ParseSize_0_eq i0_0 r0_1 i0_3 i0_4 i0_5 i0_6 i0_7 i0_8 i0_9 i0_10 i0_11 i0_12 i0_13 i0_14 r0_15 i0_2 r0_16 kn kx kr _ i0_2 r0_16).symm.trans h⟩
  · cases h
theorem un_R29_ParseSize_0x1_eq {R : Type} (r0_0 : Rows) (i0_1 i0_2 i0_3 i0_4 i0_5 i0_6 : Int) (r0_7 r0_8 : Rows) (kn : St → Option R) (kx : Nat → St → Option R) (kr : V → Option R) : loopN env_R29_ParseSize 0 (loopAt Tryz.f16 0) (shape_R29_ParseSize_0x1.put [.r r0_0, .i i0_1, .i i0_2, .i i0_3, .i i0_4, .i i0_5, .i i0_6, .r r0_7, .r r0_8]) kn kx kr 1 (shape_R29_ParseSize_0x1.put [.r r0_0, .i i0_1, .i i0_2, .i i0_3, .i i0_4, .i i0_5, .i i0_6, .r r0_7, .r r0_8]) = un_R29_ParseSize_0x1 r0_0 i0_1 i0_2 i0_3 i0_4 i0_5 i0_6 r0_7 r0_8 kn kr := by kernel_rfl
theorem goodl_R29_ParseSize_0x1 {R : Type} {rest} (h : GoodL (R := R) env_R29_ParseSize 0 (loopAt Tryz.f16 0) rest) : GoodL (R := R) env_R29_ParseSize 0 (loopAt Tryz.f16 0) (loopAlt shape_R29_ParseSize_0x1 hook_R29_ParseSize_0x1 rest) := by
  refine goodL_alt (fun l kn kx kr r h => ?_) h
  unfold hook_R29_ParseSize_0x1 at h
  split at h
  · rename_i r0_0 i0_1 i0_2 i0_3 i0_4 i0_5 i0_6 r0_7 r0_8
    exact ⟨1, (un_R29_ParseSize_0x1_eq r0_0 i0_1 i0_2 i0_3 i0_4 i0_5 i0_6 r0_7 r0_8 kn kx kr).trans h⟩
  · cases h
theorem good_R29_ParseSize_0 {R : Type} : GoodLoop (R := R) env_R29_ParseSize 0 (loopAt Tryz.f16 0) := goodL_loop (g := loopAlt shape_R29_ParseSize_0 hook_R29_ParseSize_0 (loopAlt shape_R29_ParseSize_0x1 hook_R29_ParseSize_0x1 loopNil)) (fun _ _ _ _ => rfl) (goodl_R29_ParseSize_0 (goodl_R29_ParseSize_0x1 goodL_nil))
noncomputable def spec_R29_ParseSize {R : Type} (a0 : SSegment) (k : V → Option R) : Option R :=
 let x1 : Int := (((List.length a0.Payload) : Nat) : Int)
 let b2 : Bool := (decide (x1 ≥ (13 : Int)))
 bif b2 then
 bif (inR (12 : Int) (List.length a0.Payload)) then
 let w3 : List V := (List.getD a0.Payload (12 : Nat) [])
 let x4 : Int := (V.toInt (List.getD w3 0 V.undef))
 let x5 : Int := (IntKind.wrap .i64 ((3 : Int) * (IntKind.wrap .i64 x4)))
 let x6 : Int := (IntKind.wrap .i64 ((13 : Int) + x5))
 let c7 : Int := (m_R29_framed a0 (65441 : Int) x6)
 bif (c7 != (0 : Int)) then
 k (V.tup [(V.agg [(V.int .i64 (0 : Int)), (V.int .i64 (0 : Int)), (V.int .i64 (0 : Int)), (V.int .i64 (0 : Int)), (V.int .i64 (0 : Int)), (V.int .i64 (0 : Int)), (V.data SComponent.sh [])]), (V.int .i64 c7)])
 else
 bif (pre_R29_get a0.Payload (0 : Int) (2 : Int)) then
 let c8 : Int := (m_R29_get a0.Payload (0 : Int) (2 : Int))
 bif (pre_R29_get a0.Payload (2 : Int) (2 : Int)) then
 let c9 : Int := (m_R29_get a0.Payload (2 : Int) (2 : Int))
 bif (pre_R29_get a0.Payload (4 : Int) (2 : Int)) then
 let c10 : Int := (m_R29_get a0.Payload (4 : Int) (2 : Int))
 bif (pre_R29_get a0.Payload (6 : Int) (2 : Int)) then
 let c11 : Int := (m_R29_get a0.Payload (6 : Int) (2 : Int))
 bif (pre_R29_get a0.Payload (8 : Int) (2 : Int)) then
 let c12 : Int := (m_R29_get a0.Payload (8 : Int) (2 : Int))
 bif (pre_R29_get a0.Payload (10 : Int) (2 : Int)) then
 let c13 : Int := (m_R29_get a0.Payload (10 : Int) (2 : Int))
 loop_R29_ParseSize_0 x6 a0.Payload (0 : Int) (0 : Int) (0 : Int) (0 : Int) (0 : Int) (0 : Int) c8 c9 c10 c11 c12 c13 [] (fuel_R29_ParseSize_0 x6 a0.Payload (13 : Int) (0 : Int) (0 : Int) (0 : Int) (0 : Int) (0 : Int) (0 : Int) c8 c9 c10 c11 c12 c13 [] []) (13 : Int) [] (fun i0_z29 r0_z30 =>
 let c31 : Int := (m_R23_Header (SHeader.mk (SRect.mk c8 c9 c10 c11) c12 c13 r0_z30))
 bif (c31 != (0 : Int)) then
 k (V.tup [(V.agg [(V.int .i64 (0 : Int)), (V.int .i64 (0 : Int)), (V.int .i64 (0 : Int)), (V.int .i64 (0 : Int)), (V.int .i64 (0 : Int)), (V.int .i64 (0 : Int)), (V.data SComponent.sh [])]), (V.int .i64 c31)])
 else
 k (V.tup [(V.agg [(V.int .i64 c8), (V.int .i64 c9), (V.int .i64 c10), (V.int .i64 c11), (V.int .i64 c12), (V.int .i64 c13), (V.data SComponent.sh r0_z30)]), (V.int .i64 (0 : Int))]))
 else none
 else none
 else none
 else none
 else none
 else none
 else none
 else
 let c32 : Int := (m_R29_framed a0 (65441 : Int) (13 : Int))
 bif (c32 != (0 : Int)) then
 k (V.tup [(V.agg [(V.int .i64 (0 : Int)), (V.int .i64 (0 : Int)), (V.int .i64 (0 : Int)), (V.int .i64 (0 : Int)), (V.int .i64 (0 : Int)), (V.int .i64 (0 : Int)), (V.data SComponent.sh [])]), (V.int .i64 c32)])
 else
 bif (pre_R29_get a0.Payload (0 : Int) (2 : Int)) then
 let c33 : Int := (m_R29_get a0.Payload (0 : Int) (2 : Int))
 bif (pre_R29_get a0.Payload (2 : Int) (2 : Int)) then
 let c34 : Int := (m_R29_get a0.Payload (2 : Int) (2 : Int))
 bif (pre_R29_get a0.Payload (4 : Int) (2 : Int)) then
 let c35 : Int := (m_R29_get a0.Payload (4 : Int) (2 : Int))
 bif (pre_R29_get a0.Payload (6 : Int) (2 : Int)) then
 let c36 : Int := (m_R29_get a0.Payload (6 : Int) (2 : Int))
 bif (pre_R29_get a0.Payload (8 : Int) (2 : Int)) then
 let c37 : Int := (m_R29_get a0.Payload (8 : Int) (2 : Int))
 bif (pre_R29_get a0.Payload (10 : Int) (2 : Int)) then
 let c38 : Int := (m_R29_get a0.Payload (10 : Int) (2 : Int))
 let c39 : Int := (m_R23_Header (SHeader.mk (SRect.mk c33 c34 c35 c36) c37 c38 []))
 bif (c39 != (0 : Int)) then
 k (V.tup [(V.agg [(V.int .i64 (0 : Int)), (V.int .i64 (0 : Int)), (V.int .i64 (0 : Int)), (V.int .i64 (0 : Int)), (V.int .i64 (0 : Int)), (V.int .i64 (0 : Int)), (V.data SComponent.sh [])]), (V.int .i64 c39)])
 else
 k (V.tup [(V.agg [(V.int .i64 c33), (V.int .i64 c34), (V.int .i64 c35), (V.int .i64 c36), (V.int .i64 c37), (V.int .i64 c38), (V.data SComponent.sh [])]), (V.int .i64 (0 : Int))])
 else none
 else none
 else none
 else none
 else none
 else none
abbrev av_R29_ParseSize (a0 : SSegment) : List V := [(SSegment.v a0)]
theorem spec_R29_ParseSize_eq {R : Type} (a0 : SSegment) (k : V → Option R) : fnK env_R29_ParseSize Tryz.f16 (av_R29_ParseSize a0) k = spec_R29_ParseSize a0 k := by kernel_rfl
theorem ok_R29_ParseSize (h_R29_framed : G_R29_framed) (h_R29_get : G_R29_get) (h_R23_Header : G_R23_Header) (a0 : SSegment) {v : V} (h : Real (av_R29_ParseSize a0) → spec_R29_ParseSize a0 some = some v) : FunOK Tryz.prog 16 (av_R29_ParseSize a0) v :=
  fn_ok (fn := Tryz.f16) (c := bodyOf Tryz.f16) (E := env_R29_ParseSize) ⟨by kernel_rfl, (goodCons h_R29_framed (goodCons h_R29_get (goodCons h_R23_Header goodNil))), rfl, goodS_no⟩ rfl (by kernel_rfl) (by kernel_rfl) (by kernel_rfl)
  (loopsOK_of _ (by
    have e : loopsOf (bodyOf Tryz.f16) = [(0, loopAt Tryz.f16 0)] := by kernel_rfl
    rw [e]
    simp only [List.forall_mem_cons, List.not_mem_nil, false_implies, implies_true, and_true]
    exact good_R29_ParseSize_0))
  (fun hr => (spec_R29_ParseSize_eq a0 some).trans (h hr))
theorem mk_R29_ParseSize (h_R29_framed : G_R29_framed) (h_R29_get : G_R29_get) (h_R23_Header : G_R23_Header) (h : ∀ (a0 : SSegment), pre_R29_ParseSize a0 = true → Real (av_R29_ParseSize a0) → spec_R29_ParseSize a0 some = some (V.tup [(SHeader.v (m_R29_ParseSize a0).1), (V.int .i64 (m_R29_ParseSize a0).2)])) : G_R29_ParseSize := goodHook1 fun l hp => by
  unfold hp_R29_ParseSize at hp
  split at hp
  · rename_i x0 x1
    exact ok_R29_ParseSize h_R29_framed h_R29_get h_R23_Header (SSegment.mk x0 x1) fun hr => h (SSegment.mk x0 x1) hp hr
  · cases hp
noncomputable def fuel_R29_ParseCoding_0 (i0_0 : Int) (r0_1 : Rows) (i0_2 i0_3 i0_4 i0_5 i0_6 i0_7 i0_8 i0_9 : Int) (b0_10 b0_11 b0_12 b0_13 b0_14 b0_15 b0_16 b0_17 : Bool) (i0_18 i0_19 i0_20 i0_21 i0_22 i0_23 i0_24 i0_25 i0_26 : Int) (b0_27 b0_28 b0_29 b0_30 b0_31 b0_32 b0_33 b0_34 : Bool) (i0_35 i0_36 : Int) (r0_37 r0_38 r0_39 r0_40 : Rows) : Nat :=
 Int.toNat (i0_0 - i0_2) + 1
noncomputable def step_R29_ParseCoding_0 {R : Type} (i0_0 : Int) (r0_1 : Rows) (i0_3 i0_4 i0_5 i0_6 i0_7 i0_8 i0_9 : Int) (b0_10 b0_11 b0_12 b0_13 b0_14 b0_15 b0_16 b0_17 : Bool) (i0_18 i0_19 i0_20 i0_21 i0_22 i0_23 i0_24 i0_25 i0_26 : Int) (b0_27 b0_28 b0_29 b0_30 b0_31 b0_32 b0_33 b0_34 : Bool) (i0_35 i0_36 : Int) (r0_37 r0_38 r0_40 : Rows) (i0_2 : Int) (r0_39 : Rows) (again : Int → Rows → Option R) (kn : Int → Rows → Option R) : Option R :=
 bif (decide (i0_2 < i0_0)) then
 bif (inR i0_2 (List.length r0_1)) then
 let w39 : List V := (List.getD r0_1 (Int.toNat i0_2) [])
 let x40 : Int := (V.toInt (List.getD w39 0 V.undef))
 let x41 : Int := (Int.tmod (IntKind.wrap .i64 x40) (16 : Int))
 bif (inR i0_2 (List.length r0_1)) then
 let w42 : List V := (List.getD r0_1 (Int.toNat i0_2) [])
 let x43 : Int := (V.toInt (List.getD w42 0 V.undef))
 let x44 : Int := (IntKind.wrap .i64 (Int.tdiv (IntKind.wrap .i64 x43) (16 : Int)))
 bif (roomOK ((List.length r0_39) + (1 : Nat)) 16) then
 let r45 : Rows := (r0_39 ++ [[(V.int .i64 x41), (V.int .i64 x44)]])
 let x46 : Int := (IntKind.wrap .i64 (i0_2 + (1 : Int)))
 again x46 r45
 else none
 else none
 else none
 else
 kn i0_2 r0_39
noncomputable def loop_R29_ParseCoding_0 {R : Type} (i0_0 : Int) (r0_1 : Rows) (i0_3 i0_4 i0_5 i0_6 i0_7 i0_8 i0_9 : Int) (b0_10 b0_11 b0_12 b0_13 b0_14 b0_15 b0_16 b0_17 : Bool) (i0_18 i0_19 i0_20 i0_21 i0_22 i0_23 i0_24 i0_25 i0_26 : Int) (b0_27 b0_28 b0_29 b0_30 b0_31 b0_32 b0_33 b0_34 : Bool) (i0_35 i0_36 : Int) (r0_37 r0_38 r0_40 : Rows) : Nat → Int → Rows → (Int → Rows → Option R) → Option R
  | 0, _, _, _ => none
  | n + 1, i0_2, r0_39, kn => step_R29_ParseCoding_0 i0_0 r0_1 i0_3 i0_4 i0_5 i0_6 i0_7 i0_8 i0_9 b0_10 b0_11 b0_12 b0_13 b0_14 b0_15 b0_16 b0_17 i0_18 i0_19 i0_20 i0_21 i0_22 i0_23 i0_24 i0_25 i0_26 b0_27 b0_28 b0_29 b0_30 b0_31 b0_32 b0_33 b0_34 i0_35 i0_36 r0_37 r0_38 r0_40 i0_2 r0_39 (fun yi0_2 yr0_39 => loop_R29_ParseCoding_0 i0_0 r0_1 i0_3 i0_4 i0_5 i0_6 i0_7 i0_8 i0_9 b0_10 b0_11 b0_12 b0_13 b0_14 b0_15 b0_16 b0_17 i0_18 i0_19 i0_20 i0_21 i0_22 i0_23 i0_24 i0_25 i0_26 b0_27 b0_28 b0_29 b0_30 b0_31 b0_32 b0_33 b0_34 i0_35 i0_36 r0_37 r0_38 r0_40 n yi0_2 yr0_39 kn) kn
noncomputable def shape_R29_ParseCoding_0 : ST := ⟨.undef :: .undef :: .ptr 1 0 0 :: .undef :: .int .i64 :: .undef :: .data [.int .u8] :: .undef :: .ptr 67 0 0 :: .int .i64 :: unds 116 [], [(1, .var SParams.sh false [.int .i64, .int .i64, .int .i64, .int .i64, .int .i64, .vs 109, .int .i64, .int .i64, .bool, .bool, .bool, .bool, .bool, .bool, .bool, .bool, .vs 110, .int .i64, .int .i64]), (67, .var SParams.sh false [.int .i64, .int .i64, .int .i64, .int .i64, .int .i64, .vs 111, .int .i64, .int .i64, .bool, .bool, .bool, .bool, .bool, .bool, .bool, .bool, .vs 112, .int .i64, .int .i64]), (109, .vec SPoint.sh false), (110, .vec Sbox_reader.sh false), (111, .vec SPoint.sh false), (112, .vec Sbox_reader.sh false)], 113⟩
noncomputable def st_R29_ParseCoding_0 (i0_0 : Int) (r0_1 : Rows) (i0_3 i0_4 i0_5 i0_6 i0_7 i0_8 i0_9 : Int) (b0_10 b0_11 b0_12 b0_13 b0_14 b0_15 b0_16 b0_17 : Bool) (i0_18 i0_19 i0_20 i0_21 i0_22 i0_23 i0_24 i0_25 i0_26 : Int) (b0_27 b0_28 b0_29 b0_30 b0_31 b0_32 b0_33 b0_34 : Bool) (i0_35 i0_36 : Int) (r0_37 r0_38 r0_40 : Rows) (i0_2 : Int) (r0_39 : Rows) : St := shape_R29_ParseCoding_0.put [.i i0_0, .r r0_1, .i i0_2, .i i0_3, .i i0_4, .i i0_5, .i i0_6, .i i0_7, .i i0_8, .i i0_9, .b b0_10, .b b0_11, .b b0_12, .b b0_13, .b b0_14, .b b0_15, .b b0_16, .b b0_17, .i i0_18, .i i0_19, .i i0_20, .i i0_21, .i i0_22, .i i0_23, .i i0_24, .i i0_25, .i i0_26, .b b0_27, .b b0_28, .b b0_29, .b b0_30, .b b0_31, .b b0_32, .b b0_33, .b b0_34, .i i0_35, .i i0_36, .r r0_37, .r r0_38, .r r0_39, .r r0_40]
noncomputable def hook_R29_ParseCoding_0 {R : Type} : LoopG R := fun l kn _ _ => match l with
  | .i i0_0 :: .r r0_1 :: .i i0_2 :: .i i0_3 :: .i i0_4 :: .i i0_5 :: .i i0_6 :: .i i0_7 :: .i i0_8 :: .i i0_9 :: .b b0_10 :: .b b0_11 :: .b b0_12 :: .b b0_13 :: .b b0_14 :: .b b0_15 :: .b b0_16 :: .b b0_17 :: .i i0_18 :: .i i0_19 :: .i i0_20 :: .i i0_21 :: .i i0_22 :: .i i0_23 :: .i i0_24 :: .i i0_25 :: .i i0_26 :: .b b0_27 :: .b b0_28 :: .b b0_29 :: .b b0_30 :: .b b0_31 :: .b b0_32 :: .b b0_33 :: .b b0_34 :: .i i0_35 :: .i i0_36 :: .r r0_37 :: .r r0_38 :: .r r0_39 :: .r r0_40 :: [] => loop_R29_ParseCoding_0 i0_0 r0_1 i0_3 i0_4 i0_5 i0_6 i0_7 i0_8 i0_9 b0_10 b0_11 b0_12 b0_13 b0_14 b0_15 b0_16 b0_17 i0_18 i0_19 i0_20 i0_21 i0_22 i0_23 i0_24 i0_25 i0_26 b0_27 b0_28 b0_29 b0_30 b0_31 b0_32 b0_33 b0_34 i0_35 i0_36 r0_37 r0_38 r0_40 (fuel_R29_ParseCoding_0 i0_0 r0_1 i0_2 i0_3 i0_4 i0_5 i0_6 i0_7 i0_8 i0_9 b0_10 b0_11 b0_12 b0_13 b0_14 b0_15 b0_16 b0_17 i0_18 i0_19 i0_20 i0_21 i0_22 i0_23 i0_24 i0_25 i0_26 b0_27 b0_28 b0_29 b0_30 b0_31 b0_32 b0_33 b0_34 i0_35 i0_36 r0_37 r0_38 r0_39 r0_40) i0_2 r0_39 (fun yi0_2 yr0_39 => kn (st_R29_ParseCoding_0 i0_0 r0_1 i0_3 i0_4 i0_5 i0_6 i0_7 i0_8 i0_9 b0_10 b0_11 b0_12 b0_13 b0_14 b0_15 b0_16 b0_17 i0_18 i0_19 i0_20 i0_21 i0_22 i0_23 i0_24 i0_25 i0_26 b0_27 b0_28 b0_29 b0_30 b0_31 b0_32 b0_33 b0_34 i0_35 i0_36 r0_37 r0_38 r0_40 yi0_2 yr0_39))
  | _ => none
noncomputable def shape_R29_ParseCoding_0x1 : ST := ⟨.undef :: .undef :: .ptr 1 0 0 :: .undef :: .lit .i64 10 :: .undef :: .data [.int .u8] :: .undef :: .ptr 67 0 0 :: .lit .i64 10 :: unds 116 [], [(1, .var SParams.sh false [.lit .i64 0, .lit .i64 0, .lit .i64 0, .lit .i64 0, .lit .i64 0, .vs 109, .lit .i64 0, .lit .i64 0, .bool, .bool, .bool, .bool, .bool, .bool, .bool, .bool, .vs 110, .lit .i64 0, .lit .i64 0]), (67, .var SParams.sh false [.int .i64, .int .i64, .int .i64, .int .i64, .int .i64, .vs 111, .int .i64, .int .i64, .bool, .bool, .bool, .bool, .bool, .bool, .bool, .bool, .vs 112, .lit .i64 0, .int .i64]), (109, .vec SPoint.sh false), (110, .vec Sbox_reader.sh false), (111, .vec SPoint.sh false), (112, .vec Sbox_reader.sh false)], 113⟩
noncomputable def un_R29_ParseCoding_0x1 {R : Type} (r0_0 : Rows) (b0_1 b0_2 b0_3 b0_4 b0_5 b0_6 b0_7 b0_8 : Bool) (i0_9 i0_10 i0_11 i0_12 i0_13 i0_14 i0_15 : Int) (b0_16 b0_17 b0_18 b0_19 b0_20 b0_21 b0_22 b0_23 : Bool) (i0_24 : Int) (r0_25 r0_26 r0_27 r0_28 : Rows) (kn : St → Option R) (kr : V → Option R) : Option R :=
 kn ⟨[V.undef, V.undef, (V.ptr 1 (0 : Nat) 0), V.undef, (V.int .i64 (10 : Int)), V.undef, (V.data [.int .u8] r0_0), V.undef, (V.ptr 67 (0 : Nat) 0), (V.int .i64 (10 : Int)), V.undef, V.undef, V.undef, V.undef, V.undef, V.undef, V.undef, V.undef, V.undef, V.undef, V.undef, V.undef, V.undef, V.undef, V.undef, V.undef, V.undef, V.undef, V.undef, V.undef, V.undef, V.undef, V.undef, V.undef, V.undef, V.undef, V.undef, V.undef, V.undef, V.undef, V.undef, V.undef, V.undef, V.undef, V.undef, V.undef, V.undef, V.undef, V.undef, V.undef, V.undef, V.undef, V.undef, V.undef, V.undef, V.undef, V.undef, V.undef, V.undef, V.undef, V.undef, V.undef, V.undef, V.undef, V.undef, V.undef, V.undef, V.undef, V.undef, V.undef, V.undef, V.undef, V.undef, V.undef, V.undef, V.undef, V.undef, V.undef, V.undef, V.undef, V.undef, V.undef, V.undef, V.undef, V.undef, V.undef, V.undef, V.undef, V.undef, V.undef, V.undef, V.undef, V.undef, V.undef, V.undef, V.undef, V.undef, V.undef, V.undef, V.undef, V.undef, V.undef, V.undef, V.undef, V.undef, V.undef, V.undef, V.undef, V.undef, V.undef, V.undef, V.undef, V.undef, V.undef, V.undef, V.undef, V.undef, V.undef, V.undef, V.undef, V.undef, V.undef, V.undef, V.undef, V.undef, V.undef], [(1, ⟨false, SParams.sh, [[(V.int .i64 (0 : Int)), (V.int .i64 (0 : Int)), (V.int .i64 (0 : Int)), (V.int .i64 (0 : Int)), (V.int .i64 (0 : Int)), (V.vs 109), (V.int .i64 (0 : Int)), (V.int .i64 (0 : Int)), (V.bool b0_1), (V.bool b0_2), (V.bool b0_3), (V.bool b0_4), (V.bool b0_5), (V.bool b0_6), (V.bool b0_7), (V.bool b0_8), (V.vs 110), (V.int .i64 (0 : Int)), (V.int .i64 (0 : Int))]], false⟩), (67, ⟨false, SParams.sh, [[(V.int .i64 i0_9), (V.int .i64 i0_10), (V.int .i64 i0_11), (V.int .i64 i0_12), (V.int .i64 i0_13), (V.vs 111), (V.int .i64 i0_14), (V.int .i64 i0_15), (V.bool b0_16), (V.bool b0_17), (V.bool b0_18), (V.bool b0_19), (V.bool b0_20), (V.bool b0_21), (V.bool b0_22), (V.bool b0_23), (V.vs 112), (V.int .i64 (0 : Int)), (V.int .i64 i0_24)]], false⟩), (109, ⟨true, SPoint.sh, r0_25, false⟩), (110, ⟨true, Sbox_reader.sh, r0_26, false⟩), (111, ⟨true, SPoint.sh, r0_27, false⟩), (112, ⟨true, Sbox_reader.sh, r0_28, false⟩)], 113⟩
noncomputable def hook_R29_ParseCoding_0x1 {R : Type} : LoopG R := fun l kn _ kr => match l with
  | .r r0_0 :: .b b0_1 :: .b b0_2 :: .b b0_3 :: .b b0_4 :: .b b0_5 :: .b b0_6 :: .b b0_7 :: .b b0_8 :: .i i0_9 :: .i i0_10 :: .i i0_11 :: .i i0_12 :: .i i0_13 :: .i i0_14 :: .i i0_15 :: .b b0_16 :: .b b0_17 :: .b b0_18 :: .b b0_19 :: .b b0_20 :: .b b0_21 :: .b b0_22 :: .b b0_23 :: .i i0_24 :: .r r0_25 :: .r r0_26 :: .r r0_27 :: .r r0_28 :: [] => un_R29_ParseCoding_0x1 r0_0 b0_1 b0_2 b0_3 b0_4 b0_5 b0_6 b0_7 b0_8 i0_9 i0_10 i0_11 i0_12 i0_13 i0_14 i0_15 b0_16 b0_17 b0_18 b0_19 b0_20 b0_21 b0_22 b0_23 i0_24 r0_25 r0_26 r0_27 r0_28 kn kr
  | _ => none
noncomputable def env_R29_ParseCoding {R : Type} : Env R := ⟨Tryz.prog, callCons 33 c_R29_framed callNil, fun id => bif Nat.beq id 0 then loopAlt shape_R29_ParseCoding_0 hook_R29_ParseCoding_0 (loopAlt shape_R29_ParseCoding_0x1 hook_R29_ParseCoding_0x1 loopNil) else (fun _ _ _ _ _ => none) id, Tryz.f17.results.toList, maskTab 126 [(0, 0x6), (1, 0x16), (2, 0x2016), (3, 0x16), (4, 0x36), (5, 0x2000036), (6, 0xc), (7, 0x54), (8, 0xd4), (9, 0x1d4), (10, 0x1d4), (11, 0x154), (12, 0x354), (13, 0x100000000000000000000000354), (14, 0x354), (15, 0x354), (16, 0xc)], maskAt [(1, 109), (2, 3), (4, 4), (6, 8), (8, 16), (10, 20), (12, 22), (14, 26), (16, 29), (18, 34), (20, 69), (22, 91), (24, 108), (26, 113), (28, 135), (30, 116), (32, 138)], noSort⟩
theorem step_R29_ParseCoding_0_eq {R : Type} (i0_0 : Int) (r0_1 : Rows) (i0_3 i0_4 i0_5 i0_6 i0_7 i0_8 i0_9 : Int) (b0_10 b0_11 b0_12 b0_13 b0_14 b0_15 b0_16 b0_17 : Bool) (i0_18 i0_19 i0_20 i0_21 i0_22 i0_23 i0_24 i0_25 i0_26 : Int) (b0_27 b0_28 b0_29 b0_30 b0_31 b0_32 b0_33 b0_34 : Bool) (i0_35 i0_36 : Int) (r0_37 r0_38 r0_40 : Rows) (si0_2 : Int) (sr0_39 : Rows) (kn : St → Option R) (kx : Nat → St → Option R) (kr : V → Option R) (n : Nat) (i0_2 : Int) (r0_39 : Rows) :
    loopN env_R29_ParseCoding 0 (loopAt Tryz.f17 0) (st_R29_ParseCoding_0 i0_0 r0_1 i0_3 i0_4 i0_5 i0_6 i0_7 i0_8 i0_9 b0_10 b0_11 b0_12 b0_13 b0_14 b0_15 b0_16 b0_17 i0_18 i0_19 i0_20 i0_21 i0_22 i0_23 i0_24 i0_25 i0_26 b0_27 b0_28 b0_29 b0_30 b0_31 b0_32 b0_33 b0_34 i0_35 i0_36 r0_37 r0_38 r0_40 si0_2 sr0_39) kn kx kr (n + 1) (st_R29_ParseCoding_0 i0_0 r0_1 i0_3 i0_4 i0_5 i0_6 i0_7 i0_8 i0_9 b0_10 b0_11 b0_12 b0_13 b0_14 b0_15 b0_16 b0_17 i0_18 i0_19 i0_20 i0_21 i0_22 i0_23 i0_24 i0_25 i0_26 b0_27 b0_28 b0_29 b0_30 b0_31 b0_32 b0_33 b0_34 i0_35 i0_36 r0_37 r0_38 r0_40 i0_2 r0_39) =
    step_R29_ParseCoding_0 i0_0 r0_1 i0_3 i0_4 i0_5 i0_6 i0_7 i0_8 i0_9 b0_10 b0_11 b0_12 b0_13 b0_14 b0_15 b0_16 b0_17 i0_18 i0_19 i0_20 i0_21 i0_22 i0_23 i0_24 i0_25 i0_26 b0_27 b0_28 b0_29 b0_30 b0_31 b0_32 b0_33 b0_34 i0_35 i0_36 r0_37 r0_38 r0_40 i0_2 r0_39 (fun yi0_2 yr0_39 => loopN env_R29_ParseCoding 0 (loopAt Tryz.f17 0) (st_R29_ParseCoding_0 i0_0 r0_1 i0_3 i0_4 i0_5 i0_6 i0_7 i0_8 i0_9 b0_10 b0_11 b0_12 b0_13 b0_14 b0_15 b0_16 b0_17 i0_18 i0_19 i0_20 i0_21 i0_22 i0_23 i0_24 i0_25 i0_26 b0_27 b0_28 b0_29 b0_30 b0_31 b0_32 b0_33 b0_34 i0_35 i0_36 r0_37 r0_38 r0_40 si0_2 sr0_39) kn kx kr n (st_R29_ParseCoding_0 i0_0 r0_1 i0_3 i0_4 i0_5 i0_6 i0_7 i0_8 i0_9 b0_10 b0_11 b0_12 b0_13 b0_14 b0_15 b0_16 b0_17 i0_18 i0_19 i0_20 i0_21 i0_22 i0_23 i0_24 i0_25 i0_26 b0_27 b0_28 b0_29 b0_30 b0_31 b0_32 b0_33 b0_34 i0_35 i0_36 r0_37 r0_38 r0_40 yi0_2 yr0_39)) (fun yi0_2 yr0_39 => kn (st_R29_ParseCoding_0 i0_0 r0_1 i0_3 i0_4 i0_5 i0_6 i0_7 i0_8 i0_9 b0_10 b0_11 b0_12 b0_13 b0_14 b0_15 b0_16 b0_17 i0_18 i0_19 i0_20 i0_21 i0_22 i0_23 i0_24 i0_25 i0_26 b0_27 b0_28 b0_29 b0_30 b0_31 b0_32 b0_33 b0_34 i0_35 i0_36 r0_37 r0_38 r0_40 yi0_2 yr0_39)) := by kernel_rfl
theorem loop_R29_ParseCoding_0_eq {R : Type} (i0_0 : Int) (r0_1 : Rows) (i0_3 i0_4 i0_5 i0_6 i0_7 i0_8 i0_9 : Int) (b0_10 b0_11 b0_12 b0_13 b0_14 b0_15 b0_16 b0_17 : Bool) (i0_18 i0_19 i0_20 i0_21 i0_22 i0_23 i0_24 i0_25 i0_26 : Int) (b0_27 b0_28 b0_29 b0_30 b0_31 b0_32 b0_33 b0_34 : Bool) (i0_35 i0_36 : Int) (r0_37 r0_38 r0_40 : Rows) (si0_2 : Int) (sr0_39 : Rows) (kn : St → Option R) (kx : Nat → St → Option R) (kr : V → Option R) : ∀ (n : Nat) (i0_2 : Int) (r0_39 : Rows),
    loop_R29_ParseCoding_0 i0_0 r0_1 i0_3 i0_4 i0_5 i0_6 i0_7 i0_8 i0_9 b0_10 b0_11 b0_12 b0_13 b0_14 b0_15 b0_16 b0_17 i0_18 i0_19 i0_20 i0_21 i0_22 i0_23 i0_24 i0_25 i0_26 b0_27 b0_28 b0_29 b0_30 b0_31 b0_32 b0_33 b0_34 i0_35 i0_36 r0_37 r0_38 r0_40 n i0_2 r0_39 (fun yi0_2 yr0_39 => kn (st_R29_ParseCoding_0 i0_0 r0_1 i0_3 i0_4 i0_5 i0_6 i0_7 i0_8 i0_9 b0_10 b0_11 b0_12 b0_13 b0_14 b0_15 b0_16 b0_17 i0_18 i0_19 i0_20 i0_21 i0_22 i0_23 i0_24 i0_25 i0_26 b0_27 b0_28 b0_29 b0_30 b0_31 b0_32 b0_33 b0_34 i0_35 i0_36 r0_37 r0_38 r0_40 yi0_2 yr0_39)) = loopN env_R29_ParseCoding 0 (loopAt Tryz.f17 0) (st_R29_ParseCoding_0 i0_0 r0_1 i0_3 i0_4 i0_5 i0_6 i0_7 i0_8 i0_9 b0_10 b0_11 b0_12 b0_13 b0_14 b0_15 b0_16 b0_17 i0_18 i0_19 i0_20 i0_21 i0_22 i0_23 i0_24 i0_25 i0_26 b0_27 b0_28 b0_29 b0_30 b0_31 b0_32 b0_33 b0_34 i0_35 i0_36 r0_37 r0_38 r0_40 si0_2 sr0_39) kn kx kr n (st_R29_ParseCoding_0 i0_0 r0_1 i0_3 i0_4 i0_5 i0_6 i0_7 i0_8 i0_9 b0_10 b0_11 b0_12 b0_13 b0_14 b0_15 b0_16 b0_17 i0_18 i0_19 i0_20 i0_21 i0_22 i0_23 i0_24 i0_25 i0_26 b0_27 b0_28 b0_29 b0_30 b0_31 b0_32 b0_33 b0_34 i0_35 i0_36 r0_37 r0_38 r0_40 i0_2 r0_39)
  | 0, _, _ => rfl
  | n + 1, i0_2, r0_39 => by
    rw [step_R29_ParseCoding_0_eq, loop_R29_ParseCoding_0]
    congr 1
    funext yi0_2 yr0_39
    exact loop_R29_ParseCoding_0_eq i0_0 r0_1 i0_3 i0_4 i0_5 i0_6 i0_7 i0_8 i0_9 b0_10 b0_11 b0_12 b0_13 b0_14 b0_15 b0_16 b0_17 i0_18 i0_19 i0_20 i0_21 i0_22 i0_23 i0_24 i0_25 i0_26 b0_27 b0_28 b0_29 b0_30 b0_31 b0_32 b0_33 b0_34 i0_35 i0_36 r0_37 r0_38 r0_40 si0_2 sr0_39 kn kx kr n yi0_2 yr0_39
theorem goodl_R29_ParseCoding_0 {R : Type} {rest} (h : GoodL (R := R) env_R29_ParseCoding 0 (loopAt Tryz.f17 0) rest) : GoodL (R := R) env_R29_ParseCoding 0 (loopAt Tryz.f17 0) (loopAlt shape_R29_ParseCoding_0 hook_R29_ParseCoding_0 rest) := by
  refine goodL_alt (fun l kn kx kr r h => ?_) h
  unfold hook_R29_ParseCoding_0 at h
  split at h
  · rename_i i0_0 r0_1 i0_2 i0_3 i0_4 i0_5 i0_6 i0_7 i0_8 i0_9 b0_10 b0_11 b0_12 b0_13 b0_14 b0_15 b0_16 b0_17 i0_18 i0_19 i0_20 i0_21 i0_22 i0_23 i0_24 i0_25 i0_26 b0_27 b0_28 b0_29 b0_30 b0_31 b0_32 b0_33 b0_34 i0_35 i0_36 r0_37 r0_38 r0_39 r0_40
    exact ⟨_, (loop_R29_ParseCoding_0_eq i0_0 r0_1 i0_3 i0_4 i0_5 i0_6 i0_7 i0_8 i0_9 b0_10 b0_11 b0_12 b0_13 b0_14 b0_15 b0_16 b0_17 i0_18 i0_19 i0_20 i0_21 i0_22 i0_23 i0_24 i0_25 i0_26 b0_27 b0_28 b0_29 b0_30 b0_31 b0_32 b0_33 b0_34 i0_35 i0_36 r0_37 r0_38 r0_40 i0_2 r0_39 kn kx kr _ i0_2 r0_39).symm.trans h⟩
  · cases h
theorem un_R29_ParseCoding_0x1_eq {R : Type} (r0_0 : Rows) (b0_1 b0_2 b0_3 b0_4 b0_5 b0_6 b0_7 b0_8 : Bool) (i0_9 i0_10 i0_11 i0_12 i0_13 i0_14 i0_15 : Int) (b0_16 b0_17 b0_18 b0_19 b0_20 b0_21 b0_22 b0_23 : Bool) (i0_24 : Int) (r0_25 r0_26 r0_27 r0_28 : Rows) (kn : St → Option R) (kx : Nat → St → Option R) (kr : V → Option R) : loopN env_R29_ParseCoding 0 (loopAt Tryz.f17 0) (shape_R29_ParseCoding_0x1.put [.r r0_0, .b b0_1, .b b0_2, .b b0_3, .b b0_4, .b b0_5, .b b0_6, .b b0_7, .b b0_8, .i i0_9, .i i0_10, .i i0_11, .i i0_12, .i i0_13, .i i0_14, .i i0_15, .b b0_16, .b b0_17, .b b0_18, .b b0_19, .b b0_20, .b b0_21, .b b0_22, .b b0_23, .i i0_24, .r r0_25, .r r0_26, .r r0_27, .r r0_28]) kn kx kr 1 (shape_R29_ParseCoding_0x1.put [.r r0_0, .b b0_1, .b b0_2, .b b0_3, .b b0_4, .b b0_5, .b b0_6, .b b0_7, .b b0_8, .i i0_9, .i i0_10, .i i0_11, .i i0_12, .i i0_13, .i i0_14, .i i0_15, .b b0_16, .b b0_17, .b b0_18, .b b0_19, .b b0_20, .b b0_21, .b b0_22, .b b0_23, .i i0_24, .r r0_25, .r r0_26, .r r0_27, .r r0_28]) = un_R29_ParseCoding_0x1 r0_0 b0_1 b0_2 b0_3 b0_4 b0_5 b0_6 b0_7 b0_8 i0_9 i0_10 i0_11 i0_12 i0_13 i0_14 i0_15 b0_16 b0_17 b0_18 b0_19 b0_20 b0_21 b0_22 b0_23 i0_24 r0_25 r0_26 r0_27 r0_28 kn kr := by kernel_rfl
theorem goodl_R29_ParseCoding_0x1 {R : Type} {rest} (h : GoodL (R := R) env_R29_ParseCoding 0 (loopAt Tryz.f17 0) rest) : GoodL (R := R) env_R29_ParseCoding 0 (loopAt Tryz.f17 0) (loopAlt shape_R29_ParseCoding_0x1 hook_R29_ParseCoding_0x1 rest) := by
  refine goodL_alt (fun l kn kx kr r h => ?_) h
  unfold hook_R29_ParseCoding_0x1 at h
  split at h
  · rename_i r0_0 b0_1 b0_2 b0_3 b0_4 b0_5 b0_6 b0_7 b0_8 i0_9 i0_10 i0_11 i0_12 i0_13 i0_14 i0_15 b0_16 b0_17 b0_18 b0_19 b0_20 b0_21 b0_22 b0_23 i0_24 r0_25 r0_26 r0_27 r0_28
    exact ⟨1, (un_R29_ParseCoding_0x1_eq r0_0 b0_1 b0_2 b0_3 b0_4 b0_5 b0_6 b0_7 b0_8 i0_9 i0_10 i0_11 i0_12 i0_13 i0_14 i0_15 b0_16 b0_17 b0_18 b0_19 b0_20 b0_21 b0_22 b0_23 i0_24 r0_25 r0_26 r0_27 r0_28 kn kx kr).trans h⟩
  · cases h
theorem good_R29_ParseCoding_0 {R : Type} : GoodLoop (R := R) env_R29_ParseCoding 0 (loopAt Tryz.f17 0) := goodL_loop (g := loopAlt shape_R29_ParseCoding_0 hook_R29_ParseCoding_0 (loopAlt shape_R29_ParseCoding_0x1 hook_R29_ParseCoding_0x1 loopNil)) (fun _ _ _ _ => rfl) (goodl_R29_ParseCoding_0 (goodl_R29_ParseCoding_0x1 goodL_nil))
noncomputable def spec_R29_ParseCoding {R : Type} (a0 : SSegment) (k : V → Option R) : Option R :=
 let x1 : Int := (((List.length a0.Payload) : Nat) : Int)
 let b2 : Bool := (decide (x1 ≥ (10 : Int)))
 bif b2 then
 bif (inR (9 : Int) (List.length a0.Payload)) then
 let w3 : List V := (List.getD a0.Payload (9 : Nat) [])
 let x4 : Int := (V.toInt (List.getD w3 0 V.undef))
 let x5 : Int := (IntKind.wrap .i64 ((10 : Int) + (IntKind.wrap .i64 x4)))
 let c6 : Int := (m_R29_framed a0 (65442 : Int) x5)
 bif (c6 != (0 : Int)) then
 k (V.tup [(V.agg [(V.int .i64 (0 : Int)), (V.int .i64 (0 : Int)), (V.int .i64 (0 : Int)), (V.int .i64 (0 : Int)), (V.int .i64 (0 : Int)), (V.data SPoint.sh []), (V.int .i64 (0 : Int)), (V.int .i64 (0 : Int)), (V.bool false), (V.bool false), (V.bool false), (V.bool false), (V.bool false), (V.bool false), (V.bool false), (V.bool false), (V.data Sbox_reader.sh []), (V.int .i64 (0 : Int)), (V.int .i64 (0 : Int))]), (V.int .i64 c6)])
 else
 bif (inR (7 : Int) (List.length a0.Payload)) then
 let w7 : List V := (List.getD a0.Payload (7 : Nat) [])
 let x8 : Int := (V.toInt (List.getD w7 0 V.undef))
 bif (inR (0 : Int) (List.length a0.Payload)) then
 let w9 : List V := (List.getD a0.Payload (0 : Nat) [])
 let x10 : Int := (V.toInt (List.getD w9 0 V.undef))
 bif (inR (1 : Int) (List.length a0.Payload)) then
 let w11 : List V := (List.getD a0.Payload (1 : Nat) [])
 let x12 : Int := (V.toInt (List.getD w11 0 V.undef))
 bif (inR (2 : Int) (List.length a0.Payload)) then
 let w13 : List V := (List.getD a0.Payload (2 : Nat) [])
 let x14 : Int := (V.toInt (List.getD w13 0 V.undef))
 bif (inR (3 : Int) (List.length a0.Payload)) then
 let w15 : List V := (List.getD a0.Payload (3 : Nat) [])
 let x16 : Int := (V.toInt (List.getD w15 0 V.undef))
 bif (inR (4 : Int) (List.length a0.Payload)) then
 let w17 : List V := (List.getD a0.Payload (4 : Nat) [])
 let x18 : Int := (V.toInt (List.getD w17 0 V.undef))
 bif (inR (5 : Int) (List.length a0.Payload)) then
 let w19 : List V := (List.getD a0.Payload (5 : Nat) [])
 let x20 : Int := (V.toInt (List.getD w19 0 V.undef))
 bif (inR (6 : Int) (List.length a0.Payload)) then
 let w21 : List V := (List.getD a0.Payload (6 : Nat) [])
 let x22 : Int := (V.toInt (List.getD w21 0 V.undef))
 bif (inR (8 : Int) (List.length a0.Payload)) then
 let w23 : List V := (List.getD a0.Payload (8 : Nat) [])
 let x24 : Int := (V.toInt (List.getD w23 0 V.undef))
 let x25 : Int := (Int.tmod (IntKind.wrap .i64 x8) (2 : Int))
 let x26 : Int := (IntKind.wrap .i64 (Int.tdiv (IntKind.wrap .i64 x8) (2 : Int)))
 let b27 : Bool := ((Int.tmod x26 (2 : Int)) == (1 : Int))
 let x28 : Int := (IntKind.wrap .i64 (Int.tdiv (IntKind.wrap .i64 x8) (4 : Int)))
 let b29 : Bool := ((Int.tmod x28 (2 : Int)) == (1 : Int))
 let x30 : Int := (IntKind.wrap .i64 (Int.tdiv (IntKind.wrap .i64 x8) (8 : Int)))
 let b31 : Bool := ((Int.tmod x30 (2 : Int)) == (1 : Int))
 let x32 : Int := (IntKind.wrap .i64 (Int.tdiv (IntKind.wrap .i64 x8) (16 : Int)))
 let b33 : Bool := ((Int.tmod x32 (2 : Int)) == (1 : Int))
 let x34 : Int := (IntKind.wrap .i64 (Int.tdiv (IntKind.wrap .i64 x8) (32 : Int)))
 let b35 : Bool := ((Int.tmod x34 (2 : Int)) == (1 : Int))
 let x36 : Int := (IntKind.wrap .i64 (Int.tdiv (IntKind.wrap .i64 x8) (64 : Int)))
 let b37 : Bool := ((Int.tmod x36 (2 : Int)) == (1 : Int))
 let x38 : Int := (IntKind.wrap .i64 (Int.tdiv (IntKind.wrap .i64 x8) (128 : Int)))
 loop_R29_ParseCoding_0 x5 a0.Payload (0 : Int) (0 : Int) (0 : Int) (0 : Int) (0 : Int) (0 : Int) (0 : Int) false false false false false false false false (0 : Int) (0 : Int) (IntKind.wrap .i64 x10) (IntKind.wrap .i64 x12) (IntKind.wrap .i64 x14) (IntKind.wrap .i64 x16) (IntKind.wrap .i64 x18) (IntKind.wrap .i64 x20) (IntKind.wrap .i64 x22) (x25 == (1 : Int)) b27 b29 b31 b33 b35 b37 (x38 == (1 : Int)) (0 : Int) (IntKind.wrap .i64 x24) [] [] [] (fuel_R29_ParseCoding_0 x5 a0.Payload (10 : Int) (0 : Int) (0 : Int) (0 : Int) (0 : Int) (0 : Int) (0 : Int) (0 : Int) false false false false false false false false (0 : Int) (0 : Int) (IntKind.wrap .i64 x10) (IntKind.wrap .i64 x12) (IntKind.wrap .i64 x14) (IntKind.wrap .i64 x16) (IntKind.wrap .i64 x18) (IntKind.wrap .i64 x20) (IntKind.wrap .i64 x22) (x25 == (1 : Int)) b27 b29 b31 b33 b35 b37 (x38 == (1 : Int)) (0 : Int) (IntKind.wrap .i64 x24) [] [] [] []) (10 : Int) [] (fun i0_z47 r0_z48 =>
 k (V.tup [(V.agg [(V.int .i64 (IntKind.wrap .i64 x10)), (V.int .i64 (IntKind.wrap .i64 x12)), (V.int .i64 (IntKind.wrap .i64 x14)), (V.int .i64 (IntKind.wrap .i64 x16)), (V.int .i64 (IntKind.wrap .i64 x18)), (V.data SPoint.sh r0_z48), (V.int .i64 (IntKind.wrap .i64 x20)), (V.int .i64 (IntKind.wrap .i64 x22)), (V.bool (x25 == (1 : Int))), (V.bool b27), (V.bool b29), (V.bool b31), (V.bool b33), (V.bool b35), (V.bool b37), (V.bool (x38 == (1 : Int))), (V.data Sbox_reader.sh []), (V.int .i64 (0 : Int)), (V.int .i64 (IntKind.wrap .i64 x24))]), (V.int .i64 (0 : Int))]))
 else none
 else none
 else none
 else none
 else none
 else none
 else none
 else none
 else none
 else none
 else
 let c49 : Int := (m_R29_framed a0 (65442 : Int) (10 : Int))
 bif (c49 != (0 : Int)) then
 k (V.tup [(V.agg [(V.int .i64 (0 : Int)), (V.int .i64 (0 : Int)), (V.int .i64 (0 : Int)), (V.int .i64 (0 : Int)), (V.int .i64 (0 : Int)), (V.data SPoint.sh []), (V.int .i64 (0 : Int)), (V.int .i64 (0 : Int)), (V.bool false), (V.bool false), (V.bool false), (V.bool false), (V.bool false), (V.bool false), (V.bool false), (V.bool false), (V.data Sbox_reader.sh []), (V.int .i64 (0 : Int)), (V.int .i64 (0 : Int))]), (V.int .i64 c49)])
 else
 bif (inR (7 : Int) (List.length a0.Payload)) then
 let w50 : List V := (List.getD a0.Payload (7 : Nat) [])
 let x51 : Int := (V.toInt (List.getD w50 0 V.undef))
 bif (inR (0 : Int) (List.length a0.Payload)) then
 let w52 : List V := (List.getD a0.Payload (0 : Nat) [])
 let x53 : Int := (V.toInt (List.getD w52 0 V.undef))
 bif (inR (1 : Int) (List.length a0.Payload)) then
 let w54 : List V := (List.getD a0.Payload (1 : Nat) [])
 let x55 : Int := (V.toInt (List.getD w54 0 V.undef))
 bif (inR (2 : Int) (List.length a0.Payload)) then
 let w56 : List V := (List.getD a0.Payload (2 : Nat) [])
 let x57 : Int := (V.toInt (List.getD w56 0 V.undef))
 bif (inR (3 : Int) (List.length a0.Payload)) then
 let w58 : List V := (List.getD a0.Payload (3 : Nat) [])
 let x59 : Int := (V.toInt (List.getD w58 0 V.undef))
 bif (inR (4 : Int) (List.length a0.Payload)) then
 let w60 : List V := (List.getD a0.Payload (4 : Nat) [])
 let x61 : Int := (V.toInt (List.getD w60 0 V.undef))
 bif (inR (5 : Int) (List.length a0.Payload)) then
 let w62 : List V := (List.getD a0.Payload (5 : Nat) [])
 let x63 : Int := (V.toInt (List.getD w62 0 V.undef))
 bif (inR (6 : Int) (List.length a0.Payload)) then
 let w64 : List V := (List.getD a0.Payload (6 : Nat) [])
 let x65 : Int := (V.toInt (List.getD w64 0 V.undef))
 bif (inR (8 : Int) (List.length a0.Payload)) then
 let w66 : List V := (List.getD a0.Payload (8 : Nat) [])
 let x67 : Int := (V.toInt (List.getD w66 0 V.undef))
 let x68 : Int := (Int.tmod (IntKind.wrap .i64 x51) (2 : Int))
 let x69 : Int := (IntKind.wrap .i64 (Int.tdiv (IntKind.wrap .i64 x51) (2 : Int)))
 let b70 : Bool := ((Int.tmod x69 (2 : Int)) == (1 : Int))
 let x71 : Int := (IntKind.wrap .i64 (Int.tdiv (IntKind.wrap .i64 x51) (4 : Int)))
 let b72 : Bool := ((Int.tmod x71 (2 : Int)) == (1 : Int))
 let x73 : Int := (IntKind.wrap .i64 (Int.tdiv (IntKind.wrap .i64 x51) (8 : Int)))
 let b74 : Bool := ((Int.tmod x73 (2 : Int)) == (1 : Int))
 let x75 : Int := (IntKind.wrap .i64 (Int.tdiv (IntKind.wrap .i64 x51) (16 : Int)))
 let b76 : Bool := ((Int.tmod x75 (2 : Int)) == (1 : Int))
 let x77 : Int := (IntKind.wrap .i64 (Int.tdiv (IntKind.wrap .i64 x51) (32 : Int)))
 let b78 : Bool := ((Int.tmod x77 (2 : Int)) == (1 : Int))
 let x79 : Int := (IntKind.wrap .i64 (Int.tdiv (IntKind.wrap .i64 x51) (64 : Int)))
 let b80 : Bool := ((Int.tmod x79 (2 : Int)) == (1 : Int))
 let x81 : Int := (IntKind.wrap .i64 (Int.tdiv (IntKind.wrap .i64 x51) (128 : Int)))
 k (V.tup [(V.agg [(V.int .i64 (IntKind.wrap .i64 x53)), (V.int .i64 (IntKind.wrap .i64 x55)), (V.int .i64 (IntKind.wrap .i64 x57)), (V.int .i64 (IntKind.wrap .i64 x59)), (V.int .i64 (IntKind.wrap .i64 x61)), (V.data SPoint.sh []), (V.int .i64 (IntKind.wrap .i64 x63)), (V.int .i64 (IntKind.wrap .i64 x65)), (V.bool (x68 == (1 : Int))), (V.bool b70), (V.bool b72), (V.bool b74), (V.bool b76), (V.bool b78), (V.bool b80), (V.bool (x81 == (1 : Int))), (V.data Sbox_reader.sh []), (V.int .i64 (0 : Int)), (V.int .i64 (IntKind.wrap .i64 x67))]), (V.int .i64 (0 : Int))])
 else none
 else none
 else none
 else none
 else none
 else none
 else none
 else none
 else none
abbrev av_R29_ParseCoding (a0 : SSegment) : List V := [(SSegment.v a0)]
theorem spec_R29_ParseCoding_eq {R : Type} (a0 : SSegment) (k : V → Option R) : fnK env_R29_ParseCoding Tryz.f17 (av_R29_ParseCoding a0) k = spec_R29_ParseCoding a0 k := by kernel_rfl
theorem ok_R29_ParseCoding (h_R29_framed : G_R29_framed) (a0 : SSegment) {v : V} (h : Real (av_R29_ParseCoding a0) → spec_R29_ParseCoding a0 some = some v) : FunOK Tryz.prog 17 (av_R29_ParseCoding a0) v :=
  fn_ok (fn := Tryz.f17) (c := bodyOf Tryz.f17) (E := env_R29_ParseCoding) ⟨by kernel_rfl, (goodCons h_R29_framed goodNil), rfl, goodS_no⟩ rfl (by kernel_rfl) (by kernel_rfl) (by kernel_rfl)
  (loopsOK_of _ (by
    have e : loopsOf (bodyOf Tryz.f17) = [(0, loopAt Tryz.f17 0)] := by kernel_rfl
    rw [e]
    simp only [List.forall_mem_cons, List.not_mem_nil, false_implies, implies_true, and_true]
    exact good_R29_ParseCoding_0))
  (fun hr => (spec_R29_ParseCoding_eq a0 some).trans (h hr))
theorem mk_R29_ParseCoding (h_R29_framed : G_R29_framed) (h : ∀ (a0 : SSegment), pre_R29_ParseCoding a0 = true → Real (av_R29_ParseCoding a0) → spec_R29_ParseCoding a0 some = some (V.tup [(SParams.v (m_R29_ParseCoding a0).1), (V.int .i64 (m_R29_ParseCoding a0).2)])) : G_R29_ParseCoding := goodHook1 fun l hp => by
  unfold hp_R29_ParseCoding at hp
  split at hp
  · rename_i x0 x1
    exact ok_R29_ParseCoding h_R29_framed (SSegment.mk x0 x1) fun hr => h (SSegment.mk x0 x1) hp hr
  · cases hp
noncomputable def env_R23_Clone {R : Type} : Env R := ⟨Tryz.prog, callNil, fun _ _ _ _ _ => none, Tryz.f36.results.toList, maskTab 27 [(0, 0x3c), (1, 0xfc), (2, 0xf8), (3, 0xf8), (4, 0xf0), (5, 0x30)], maskAt [(2, 4), (4, 10), (6, 16), (8, 22), (10, 28)], noSort⟩
noncomputable def spec_R23_Clone {R : Type} (a0 : SHeader) (a1 : SParams) (k : V → Option R) : Option R :=
 bif (roomOK ((0 : Nat) + (List.length a0.Components)) 32) then
 bif (roomOK ((0 : Nat) + (List.length a1.Precincts)) 16) then
 bif (roomOK ((0 : Nat) + (List.length a1.Steps)) 8) then
 k (V.tup [(V.agg [(V.int .i64 a0.Area.X0), (V.int .i64 a0.Area.Y0), (V.int .i64 a0.Area.X1), (V.int .i64 a0.Area.Y1), (V.int .i64 a0.TileW), (V.int .i64 a0.TileH), (V.data SComponent.sh ([] ++ a0.Components))]), (V.agg [(V.int .i64 a1.Kernel), (V.int .i64 a1.Levels), (V.int .i64 a1.Color), (V.int .i64 a1.BlockX), (V.int .i64 a1.BlockY), (V.data SPoint.sh ([] ++ a1.Precincts)), (V.int .i64 a1.Order), (V.int .i64 a1.Layers), (V.bool a1.Mode.Bypass), (V.bool a1.Mode.Restart), (V.bool a1.Mode.Reset), (V.bool a1.Mode.Causal), (V.bool a1.Mode.Symbols), (V.bool a1.Divide), (V.bool a1.Sync), (V.bool a1.Fence), (V.data Sbox_reader.sh ([] ++ a1.Steps)), (V.int .i64 a1.Dead), (V.int .i64 a1.Shift)])])
 else none
 else none
 else none
abbrev av_R23_Clone (a0 : SHeader) (a1 : SParams) : List V := [(SHeader.v a0), (SParams.v a1)]
theorem spec_R23_Clone_eq {R : Type} (a0 : SHeader) (a1 : SParams) (k : V → Option R) : fnK env_R23_Clone Tryz.f36 (av_R23_Clone a0 a1) k = spec_R23_Clone a0 a1 k := by kernel_rfl
theorem ok_R23_Clone (a0 : SHeader) (a1 : SParams) {v : V} (h : Real (av_R23_Clone a0 a1) → spec_R23_Clone a0 a1 some = some v) : FunOK Tryz.prog 36 (av_R23_Clone a0 a1) v :=
  fn_ok (fn := Tryz.f36) (c := bodyOf Tryz.f36) (E := env_R23_Clone) ⟨by kernel_rfl, goodNil, rfl, goodS_no⟩ rfl (by kernel_rfl) (by kernel_rfl) (by kernel_rfl)
  (loopsOK_of _ (by
    have e : loopsOf (bodyOf Tryz.f36) = [] := by kernel_rfl
    rw [e]
    intro p hp; cases hp))
  (fun hr => (spec_R23_Clone_eq a0 a1 some).trans (h hr))
theorem mk_R23_Clone (h : ∀ (a0 : SHeader) (a1 : SParams), pre_R23_Clone a0 a1 = true → Real (av_R23_Clone a0 a1) → spec_R23_Clone a0 a1 some = some (V.tup [(SHeader.v (m_R23_Clone a0 a1).1), (SParams.v (m_R23_Clone a0 a1).2)])) : G_R23_Clone := goodHook1 fun l hp => by
  unfold hp_R23_Clone at hp
  split at hp
  · rename_i x0 x1 x2 x3 x4 x5 x6 x7 x8 x9 x10 x11 x12 x13 x14 x15 x16 x17 x18 x19 x20 x21 x22 x23 x24 x25
    exact ok_R23_Clone (SHeader.mk (SRect.mk x0 x1 x2 x3) x4 x5 x6) (SParams.mk x7 x8 x9 x10 x11 x12 x13 x14 (SMode.mk x15 x16 x17 x18 x19) x20 x21 x22 x23 x24 x25) fun hr => h (SHeader.mk (SRect.mk x0 x1 x2 x3) x4 x5 x6) (SParams.mk x7 x8 x9 x10 x11 x12 x13 x14 (SMode.mk x15 x16 x17 x18 x19) x20 x21 x22 x23 x24 x25) hp hr
  · cases hp
theorem au_R23_Clone (a0 : SHeader) (a1 : SParams) : pre_R23_Clone a0 a1 = true → spec_R23_Clone a0 a1 some = some ((fun (m : SHeader × SParams) => (V.tup [(SHeader.v m.1), (SParams.v m.2)])) (m_R23_Clone a0 a1)) := by
  repeat' (first | exact fun _ => rfl | exact fun h => absurd h (by decide) | refine bif_p (v := (fun (m : SHeader × SParams) => (V.tup [(SHeader.v m.1), (SParams.v m.2)]))) ?_ ?_)
theorem good_R23_Clone_of : G_R23_Clone := mk_R23_Clone (fun _ _ hp _ => au_R23_Clone _ _ hp)
end Go.Vm
