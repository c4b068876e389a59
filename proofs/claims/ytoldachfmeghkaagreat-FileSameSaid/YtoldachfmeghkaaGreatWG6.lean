import Derived.Test.YtoldachfmeghkaaGreatWC
set_option linter.unusedVariables false
set_option linter.unusedSimpArgs false
set_option maxRecDepth 100000
noncomputable section
namespace Go.Vm
open Go.Proofs
noncomputable def fuel_R23_Check_0 (r0_0 : Rows) (i0_1 : Int) (a0 : SHeader) (a1 : SParams) : Nat :=
 let x19 : Int := (((List.length r0_0) : Nat) : Int)
 Int.toNat (x19 - i0_1) + 1
noncomputable def step_R23_Check_0 {R : Type} (r0_0 : Rows) (a0 : SHeader) (a1 : SParams) (i0_1 : Int) (again : Int → Option R) (kn : Int → Option R) (kr : V → Option R) : Option R :=
 let x19 : Int := (((List.length r0_0) : Nat) : Int)
 bif (decide (i0_1 < x19)) then
 bif (inR i0_1 (List.length r0_0)) then
 let w20 : List V := (List.getD r0_0 (Int.toNat i0_1) [])
 let s21 : SRect := (SRect.of w20)
 bif (pre_R23_Packets a0 a1 s21) then
 let c22 : Int := (m_R23_Packets a0 a1 s21)
 let b23 : Bool := (decide (c22 > (65536 : Int)))
 bif ((inR i0_1 (List.length r0_0)) || !(b23 == false)) then
 let w24 : List V := (List.getD r0_0 (Int.toNat i0_1) [])
 let s25 : SRect := (SRect.of w24)
 bif (b23 == false) then
 bif (pre_R23_Blocks a0 a1 s25) then
 let c26 : Int := (m_R23_Blocks a0 a1 s25)
 let b27 : Bool := (decide (c26 > (65536 : Int)))
 bif b27 then
 kr (V.int .i64 (5 : Int))
 else
 let x28 : Int := (IntKind.wrap .i64 (i0_1 + (1 : Int)))
 again x28
 else none
 else
 kr (V.int .i64 (5 : Int))
 else none
 else none
 else none
 else
 kn i0_1
noncomputable def loop_R23_Check_0 {R : Type} (r0_0 : Rows) (a0 : SHeader) (a1 : SParams) : Nat → Int → (Int → Option R) → (V → Option R) → Option R
  | 0, _, _, _ => none
  | n + 1, i0_1, kn, kr => step_R23_Check_0 r0_0 a0 a1 i0_1 (fun yi0_1 => loop_R23_Check_0 r0_0 a0 a1 n yi0_1 kn kr) kn kr
noncomputable def shape_R23_Check_0 : ST := ⟨.undef :: .undef :: .ptr 0 0 0 :: .ptr 1 0 0 :: .undef :: .undef :: .data SRect.sh :: .int .i64 :: unds 71 [], [(0, .var SHeader.sh false SHeader.ts), (1, .var SParams.sh false SParams.ts)], 57⟩
noncomputable def st_R23_Check_0 (r0_0 : Rows) (a0 : SHeader) (a1 : SParams) (i0_1 : Int) : St := shape_R23_Check_0.put [.r r0_0, .i i0_1, .i a0.Area.X0, .i a0.Area.Y0, .i a0.Area.X1, .i a0.Area.Y1, .i a0.TileW, .i a0.TileH, .r a0.Components, .i a1.Kernel, .i a1.Levels, .i a1.Color, .i a1.BlockX, .i a1.BlockY, .r a1.Precincts, .i a1.Order, .i a1.Layers, .b a1.Mode.Bypass, .b a1.Mode.Restart, .b a1.Mode.Reset, .b a1.Mode.Causal, .b a1.Mode.Symbols, .b a1.Divide, .b a1.Sync, .b a1.Fence, .r a1.Steps, .i a1.Dead, .i a1.Shift]
noncomputable def hook_R23_Check_0 {R : Type} : LoopG R := fun l kn _ kr => match l with
  | .r r0_0 :: .i i0_1 :: .i a0_Area_X0 :: .i a0_Area_Y0 :: .i a0_Area_X1 :: .i a0_Area_Y1 :: .i a0_TileW :: .i a0_TileH :: .r a0_Components :: .i a1_Kernel :: .i a1_Levels :: .i a1_Color :: .i a1_BlockX :: .i a1_BlockY :: .r a1_Precincts :: .i a1_Order :: .i a1_Layers :: .b a1_Mode_Bypass :: .b a1_Mode_Restart :: .b a1_Mode_Reset :: .b a1_Mode_Causal :: .b a1_Mode_Symbols :: .b a1_Divide :: .b a1_Sync :: .b a1_Fence :: .r a1_Steps :: .i a1_Dead :: .i a1_Shift :: [] => loop_R23_Check_0 r0_0 (SHeader.mk (SRect.mk a0_Area_X0 a0_Area_Y0 a0_Area_X1 a0_Area_Y1) a0_TileW a0_TileH a0_Components) (SParams.mk a1_Kernel a1_Levels a1_Color a1_BlockX a1_BlockY a1_Precincts a1_Order a1_Layers (SMode.mk a1_Mode_Bypass a1_Mode_Restart a1_Mode_Reset a1_Mode_Causal a1_Mode_Symbols) a1_Divide a1_Sync a1_Fence a1_Steps a1_Dead a1_Shift) (fuel_R23_Check_0 r0_0 i0_1 (SHeader.mk (SRect.mk a0_Area_X0 a0_Area_Y0 a0_Area_X1 a0_Area_Y1) a0_TileW a0_TileH a0_Components) (SParams.mk a1_Kernel a1_Levels a1_Color a1_BlockX a1_BlockY a1_Precincts a1_Order a1_Layers (SMode.mk a1_Mode_Bypass a1_Mode_Restart a1_Mode_Reset a1_Mode_Causal a1_Mode_Symbols) a1_Divide a1_Sync a1_Fence a1_Steps a1_Dead a1_Shift)) i0_1 (fun yi0_1 => kn (st_R23_Check_0 r0_0 (SHeader.mk (SRect.mk a0_Area_X0 a0_Area_Y0 a0_Area_X1 a0_Area_Y1) a0_TileW a0_TileH a0_Components) (SParams.mk a1_Kernel a1_Levels a1_Color a1_BlockX a1_BlockY a1_Precincts a1_Order a1_Layers (SMode.mk a1_Mode_Bypass a1_Mode_Restart a1_Mode_Reset a1_Mode_Causal a1_Mode_Symbols) a1_Divide a1_Sync a1_Fence a1_Steps a1_Dead a1_Shift) yi0_1)) kr
  | _ => none
noncomputable def env_R23_Check {R : Type} : Env R := ⟨Tryz.prog, callCons 35 c_R23_Header (callCons 69 c_R01_Cells (callCons 70 c_R23_kinds (callCons 71 c_R23_numbers (callCons 72 c_R23_Packets (callCons 73 c_R23_Blocks callNil))))), fun id => bif Nat.beq id 0 then loopAlt shape_R23_Check_0 hook_R23_Check_0 loopNil else (fun _ _ _ _ _ => none) id, Tryz.f38.results.toList, maskTab 79 [(0, 0x3fc000007fcff800000c), (1, 0x3fc000007fcff800002c), (2, 0x3fc000007fcff800082c), (3, 0x10), (4, 0x3fc000007fcff800800c), (5, 0x10), (6, 0x3fc000007fcff804000c), (7, 0x10), (8, 0x3fc000007fcff820000c), (9, 0x3fc0000080000000000c), (10, 0x10), (11, 0x3fc0000000000000004c), (12, 0x3fc000000000000000cc), (13, 0x3fc004000000000000cc), (14, 0x3fc000000000000000cc), (15, 0x7fc000000000000000cc), (16, 0x10), (17, 0x10)], maskAt [(1, 57), (2, 3), (4, 6), (6, 8), (8, 10), (10, 13), (12, 14), (14, 17), (16, 18), (18, 21), (20, 47), (22, 48), (24, 56), (26, 61), (28, 84), (30, 65), (32, 83), (34, 87)], noSort⟩
theorem step_R23_Check_0_eq {R : Type} (r0_0 : Rows) (a0 : SHeader) (a1 : SParams) (si0_1 : Int) (kn : St → Option R) (kx : Nat → St → Option R) (kr : V → Option R) (n : Nat) (i0_1 : Int) :
    loopN env_R23_Check 0 (loopAt Tryz.f38 0) (st_R23_Check_0 r0_0 a0 a1 si0_1) kn kx kr (n + 1) (st_R23_Check_0 r0_0 a0 a1 i0_1) =
    step_R23_Check_0 r0_0 a0 a1 i0_1 (fun yi0_1 => loopN env_R23_Check 0 (loopAt Tryz.f38 0) (st_R23_Check_0 r0_0 a0 a1 si0_1) kn kx kr n (st_R23_Check_0 r0_0 a0 a1 yi0_1)) (fun yi0_1 => kn (st_R23_Check_0 r0_0 a0 a1 yi0_1)) kr := by kernel_rfl
theorem loop_R23_Check_0_eq {R : Type} (r0_0 : Rows) (a0 : SHeader) (a1 : SParams) (si0_1 : Int) (kn : St → Option R) (kx : Nat → St → Option R) (kr : V → Option R) : ∀ (n : Nat) (i0_1 : Int),
    loop_R23_Check_0 r0_0 a0 a1 n i0_1 (fun yi0_1 => kn (st_R23_Check_0 r0_0 a0 a1 yi0_1)) kr = loopN env_R23_Check 0 (loopAt Tryz.f38 0) (st_R23_Check_0 r0_0 a0 a1 si0_1) kn kx kr n (st_R23_Check_0 r0_0 a0 a1 i0_1)
  | 0, _ => rfl
  | n + 1, i0_1 => by
    rw [step_R23_Check_0_eq, loop_R23_Check_0]
    congr 1
    funext yi0_1
    exact loop_R23_Check_0_eq r0_0 a0 a1 si0_1 kn kx kr n yi0_1
theorem goodl_R23_Check_0 {R : Type} {rest} (h : GoodL (R := R) env_R23_Check 0 (loopAt Tryz.f38 0) rest) : GoodL (R := R) env_R23_Check 0 (loopAt Tryz.f38 0) (loopAlt shape_R23_Check_0 hook_R23_Check_0 rest) := by
  refine goodL_alt (fun l kn kx kr r h => ?_) h
  unfold hook_R23_Check_0 at h
  split at h
  · rename_i r0_0 i0_1 a0_Area_X0 a0_Area_Y0 a0_Area_X1 a0_Area_Y1 a0_TileW a0_TileH a0_Components a1_Kernel a1_Levels a1_Color a1_BlockX a1_BlockY a1_Precincts a1_Order a1_Layers a1_Mode_Bypass a1_Mode_Restart a1_Mode_Reset a1_Mode_Causal a1_Mode_Symbols a1_Divide a1_Sync a1_Fence a1_Steps a1_Dead a1_Shift
    exact ⟨_, (loop_R23_Check_0_eq r0_0 (SHeader.mk (SRect.mk a0_Area_X0 a0_Area_Y0 a0_Area_X1 a0_Area_Y1) a0_TileW a0_TileH a0_Components) (SParams.mk a1_Kernel a1_Levels a1_Color a1_BlockX a1_BlockY a1_Precincts a1_Order a1_Layers (SMode.mk a1_Mode_Bypass a1_Mode_Restart a1_Mode_Reset a1_Mode_Causal a1_Mode_Symbols) a1_Divide a1_Sync a1_Fence a1_Steps a1_Dead a1_Shift) i0_1 kn kx kr _ i0_1).symm.trans h⟩
  · cases h
theorem good_R23_Check_0 {R : Type} : GoodLoop (R := R) env_R23_Check 0 (loopAt Tryz.f38 0) := goodL_loop (g := loopAlt shape_R23_Check_0 hook_R23_Check_0 loopNil) (fun _ _ _ _ => rfl) (goodl_R23_Check_0 goodL_nil)
noncomputable def spec_R23_Check {R : Type} (a0 : SHeader) (a1 : SParams) (k : V → Option R) : Option R :=
 let c1 : Int := (m_R23_Header a0)
 bif (c1 != (0 : Int)) then
 k (V.int .i64 c1)
 else
 let c2 : Bool := (m_R23_kinds a1)
 bif (!c2) then
 k (V.int .i64 (3 : Int))
 else
 let c3 : Bool := (m_R23_numbers a1)
 bif (!c3) then
 k (V.int .i64 (13 : Int))
 else
 bif (a1.Color != (0 : Int)) then
 let x4 : Int := (((List.length a0.Components) : Nat) : Int)
 let b5 : Bool := (decide (x4 < (3 : Int)))
 bif ((inR (0 : Int) (List.length a0.Components)) || !(b5 == false)) then
 let w6 : List V := (List.getD a0.Components (0 : Nat) [])
 let s7 : SComponent := (SComponent.of w6)
 bif ((inR (1 : Int) (List.length a0.Components)) || !(b5 == false)) then
 let w8 : List V := (List.getD a0.Components (1 : Nat) [])
 let s9 : SComponent := (SComponent.of w8)
 let b10 : Bool := (!((s7.Depth == s9.Depth) && ((s7.Signed == s9.Signed) && ((s7.DX == s9.DX) && ((s7.DY == s9.DY) && true)))))
 let b11 : Bool := (bif b5 then true else b10)
 bif ((inR (0 : Int) (List.length a0.Components)) || !(b11 == false)) then
 let w12 : List V := (List.getD a0.Components (0 : Nat) [])
 let s13 : SComponent := (SComponent.of w12)
 bif ((inR (2 : Int) (List.length a0.Components)) || !(b11 == false)) then
 let w14 : List V := (List.getD a0.Components (2 : Nat) [])
 let s15 : SComponent := (SComponent.of w14)
 let b16 : Bool := (!((s13.Depth == s15.Depth) && ((s13.Signed == s15.Signed) && ((s13.DX == s15.DX) && ((s13.DY == s15.DY) && true)))))
 let b17 : Bool := (bif b11 then true else b16)
 bif b17 then
 k (V.int .i64 (13 : Int))
 else
 let c18 : Rows := (m_R01_Cells a0.Area a0.TileW a0.TileH)
 loop_R23_Check_0 c18 a0 a1 (fuel_R23_Check_0 c18 (0 : Int) a0 a1) (0 : Int) (fun i0_z29 =>
 k (V.int .i64 (0 : Int))) k
 else none
 else none
 else none
 else none
 else
 let c30 : Rows := (m_R01_Cells a0.Area a0.TileW a0.TileH)
 loop_R23_Check_0 c30 a0 a1 (fuel_R23_Check_0 c30 (0 : Int) a0 a1) (0 : Int) (fun i0_z31 =>
 k (V.int .i64 (0 : Int))) k
abbrev av_R23_Check (a0 : SHeader) (a1 : SParams) : List V := [(SHeader.v a0), (SParams.v a1)]
theorem spec_R23_Check_eq {R : Type} (a0 : SHeader) (a1 : SParams) (k : V → Option R) : fnK env_R23_Check Tryz.f38 (av_R23_Check a0 a1) k = spec_R23_Check a0 a1 k := by kernel_rfl
theorem ok_R23_Check (h_R23_Header : G_R23_Header) (h_R01_Cells : G_R01_Cells) (h_R23_kinds : G_R23_kinds) (h_R23_numbers : G_R23_numbers) (h_R23_Packets : G_R23_Packets) (h_R23_Blocks : G_R23_Blocks) (a0 : SHeader) (a1 : SParams) {v : V} (h : Real (av_R23_Check a0 a1) → spec_R23_Check a0 a1 some = some v) : FunOK Tryz.prog 38 (av_R23_Check a0 a1) v :=
  fn_ok (fn := Tryz.f38) (c := bodyOf Tryz.f38) (E := env_R23_Check) ⟨by kernel_rfl, (goodCons h_R23_Header (goodCons h_R01_Cells (goodCons h_R23_kinds (goodCons h_R23_numbers (goodCons h_R23_Packets (goodCons h_R23_Blocks goodNil)))))), rfl, goodS_no⟩ rfl (by kernel_rfl) (by kernel_rfl) (by kernel_rfl)
  (loopsOK_of _ (by
    have e : loopsOf (bodyOf Tryz.f38) = [(0, loopAt Tryz.f38 0)] := by kernel_rfl
    rw [e]
    simp only [List.forall_mem_cons, List.not_mem_nil, false_implies, implies_true, and_true]
    exact good_R23_Check_0))
  (fun hr => (spec_R23_Check_eq a0 a1 some).trans (h hr))
theorem mk_R23_Check (h_R23_Header : G_R23_Header) (h_R01_Cells : G_R01_Cells) (h_R23_kinds : G_R23_kinds) (h_R23_numbers : G_R23_numbers) (h_R23_Packets : G_R23_Packets) (h_R23_Blocks : G_R23_Blocks) (h : ∀ (a0 : SHeader) (a1 : SParams), Real (av_R23_Check a0 a1) → spec_R23_Check a0 a1 some = some (V.int .i64 (m_R23_Check a0 a1))) : G_R23_Check := goodHook1 fun l hp => by
  unfold hp_R23_Check at hp
  split at hp
  · rename_i x0 x1 x2 x3 x4 x5 x6 x7 x8 x9 x10 x11 x12 x13 x14 x15 x16 x17 x18 x19 x20 x21 x22 x23 x24 x25
    exact ok_R23_Check h_R23_Header h_R01_Cells h_R23_kinds h_R23_numbers h_R23_Packets h_R23_Blocks (SHeader.mk (SRect.mk x0 x1 x2 x3) x4 x5 x6) (SParams.mk x7 x8 x9 x10 x11 x12 x13 x14 (SMode.mk x15 x16 x17 x18 x19) x20 x21 x22 x23 x24 x25) fun hr => h (SHeader.mk (SRect.mk x0 x1 x2 x3) x4 x5 x6) (SParams.mk x7 x8 x9 x10 x11 x12 x13 x14 (SMode.mk x15 x16 x17 x18 x19) x20 x21 x22 x23 x24 x25) hr
  · cases hp
noncomputable def env_R24_ValidTile {R : Type} : Env R := ⟨Tryz.prog, callCons 37 c_R24_Tiles (callCons 38 c_R23_Check callNil), fun _ _ _ _ _ => none, Tryz.f74.results.toList, maskTab 35 [(0, 0x3e67cc03c), (1, 0x100)], maskAt [(2, 3)], noSort⟩
noncomputable def spec_R24_ValidTile {R : Type} (a0 : SHeader) (a1 : SParams) (a2 a3 : Int) (k : V → Option R) : Option R :=
 let c1 : Int := (m_R23_Check a0 a1)
 let b2 : Bool := (decide (a2 ≥ (0 : Int)))
 let b3 : Bool := (bif (c1 == (0 : Int)) then b2 else false)
 bif (b3 == true) then
 let c4 : Rows := (m_R24_Tiles a0)
 let x5 : Int := (((List.length c4) : Nat) : Int)
 let b6 : Bool := (decide (a3 ≥ (0 : Int)))
 let b7 : Bool := (bif (decide (a2 < x5)) then b6 else false)
 bif (b7 == true) then
 let x8 : Int := (((List.length a0.Components) : Nat) : Int)
 k (V.bool (decide (a3 < x8)))
 else
 k (V.bool false)
 else
 k (V.bool false)
abbrev av_R24_ValidTile (a0 : SHeader) (a1 : SParams) (a2 a3 : Int) : List V := [(SHeader.v a0), (SParams.v a1), (V.int .i64 a2), (V.int .i64 a3)]
theorem spec_R24_ValidTile_eq {R : Type} (a0 : SHeader) (a1 : SParams) (a2 a3 : Int) (k : V → Option R) : fnK env_R24_ValidTile Tryz.f74 (av_R24_ValidTile a0 a1 a2 a3) k = spec_R24_ValidTile a0 a1 a2 a3 k := by kernel_rfl
theorem ok_R24_ValidTile (h_R24_Tiles : G_R24_Tiles) (h_R23_Check : G_R23_Check) (a0 : SHeader) (a1 : SParams) (a2 a3 : Int) {v : V} (h : Real (av_R24_ValidTile a0 a1 a2 a3) → spec_R24_ValidTile a0 a1 a2 a3 some = some v) : FunOK Tryz.prog 74 (av_R24_ValidTile a0 a1 a2 a3) v :=
  fn_ok (fn := Tryz.f74) (c := bodyOf Tryz.f74) (E := env_R24_ValidTile) ⟨by kernel_rfl, (goodCons h_R24_Tiles (goodCons h_R23_Check goodNil)), rfl, goodS_no⟩ rfl (by kernel_rfl) (by kernel_rfl) (by kernel_rfl)
  (loopsOK_of _ (by
    have e : loopsOf (bodyOf Tryz.f74) = [] := by kernel_rfl
    rw [e]
    intro p hp; cases hp))
  (fun hr => (spec_R24_ValidTile_eq a0 a1 a2 a3 some).trans (h hr))
theorem mk_R24_ValidTile (h_R24_Tiles : G_R24_Tiles) (h_R23_Check : G_R23_Check) (h : ∀ (a0 : SHeader) (a1 : SParams) (a2 a3 : Int), Real (av_R24_ValidTile a0 a1 a2 a3) → spec_R24_ValidTile a0 a1 a2 a3 some = some (V.bool (m_R24_ValidTile a0 a1 a2 a3))) : G_R24_ValidTile := goodHook1 fun l hp => by
  unfold hp_R24_ValidTile at hp
  split at hp
  · rename_i x0 x1 x2 x3 x4 x5 x6 x7 x8 x9 x10 x11 x12 x13 x14 x15 x16 x17 x18 x19 x20 x21 x22 x23 x24 x25 x26 x27
    exact ok_R24_ValidTile h_R24_Tiles h_R23_Check (SHeader.mk (SRect.mk x0 x1 x2 x3) x4 x5 x6) (SParams.mk x7 x8 x9 x10 x11 x12 x13 x14 (SMode.mk x15 x16 x17 x18 x19) x20 x21 x22 x23 x24 x25) x26 x27 fun hr => h (SHeader.mk (SRect.mk x0 x1 x2 x3) x4 x5 x6) (SParams.mk x7 x8 x9 x10 x11 x12 x13 x14 (SMode.mk x15 x16 x17 x18 x19) x20 x21 x22 x23 x24 x25) x26 x27 hr
  · cases hp
theorem au_R24_ValidTile (a0 : SHeader) (a1 : SParams) (a2 a3 : Int) : spec_R24_ValidTile a0 a1 a2 a3 some = some ((fun (m : Bool) => (V.bool m)) (m_R24_ValidTile a0 a1 a2 a3)) := by
  repeat' (first | rfl | refine bif_t (v := (fun (m : Bool) => (V.bool m))) ?_ ?_)
theorem good_R24_ValidTile_of (h_R24_Tiles : G_R24_Tiles) (h_R23_Check : G_R23_Check) : G_R24_ValidTile := mk_R24_ValidTile h_R24_Tiles h_R23_Check (fun _ _ _ _ _ => au_R24_ValidTile _ _ _ _)
noncomputable def env_R24_Packets {R : Type} : Env R := ⟨Tryz.prog, callCons 37 c_R24_Tiles (callCons 72 c_R23_Packets (callCons 74 c_R24_ValidTile callNil)), fun _ _ _ _ _ => none, Tryz.f39.results.toList, maskTab 20 [(0, 0x1c), (1, 0x81c), (2, 0x40), (3, 0x40)], maskAt [(2, 3), (4, 8), (6, 9)], noSort⟩
noncomputable def spec_R24_Packets {R : Type} (a0 : SHeader) (a1 : SParams) (a2 : Int) (k : V → Option R) : Option R :=
 let c1 : Bool := (m_R24_ValidTile a0 a1 a2 (0 : Int))
 bif (!c1) then
 k (V.int .i64 (0 : Int))
 else
 let c2 : Rows := (m_R24_Tiles a0)
 bif (inR a2 (List.length c2)) then
 let w3 : List V := (List.getD c2 (Int.toNat a2) [])
 let s4 : SRect := (SRect.of w3)
 bif (pre_R23_Packets a0 a1 s4) then
 let c5 : Int := (m_R23_Packets a0 a1 s4)
 k (V.int .i64 c5)
 else none
 else none
abbrev av_R24_Packets (a0 : SHeader) (a1 : SParams) (a2 : Int) : List V := [(SHeader.v a0), (SParams.v a1), (V.int .i64 a2)]
theorem spec_R24_Packets_eq {R : Type} (a0 : SHeader) (a1 : SParams) (a2 : Int) (k : V → Option R) : fnK env_R24_Packets Tryz.f39 (av_R24_Packets a0 a1 a2) k = spec_R24_Packets a0 a1 a2 k := by kernel_rfl
theorem ok_R24_Packets (h_R24_Tiles : G_R24_Tiles) (h_R23_Packets : G_R23_Packets) (h_R24_ValidTile : G_R24_ValidTile) (a0 : SHeader) (a1 : SParams) (a2 : Int) {v : V} (h : Real (av_R24_Packets a0 a1 a2) → spec_R24_Packets a0 a1 a2 some = some v) : FunOK Tryz.prog 39 (av_R24_Packets a0 a1 a2) v :=
  fn_ok (fn := Tryz.f39) (c := bodyOf Tryz.f39) (E := env_R24_Packets) ⟨by kernel_rfl, (goodCons h_R24_Tiles (goodCons h_R23_Packets (goodCons h_R24_ValidTile goodNil))), rfl, goodS_no⟩ rfl (by kernel_rfl) (by kernel_rfl) (by kernel_rfl)
  (loopsOK_of _ (by
    have e : loopsOf (bodyOf Tryz.f39) = [] := by kernel_rfl
    rw [e]
    intro p hp; cases hp))
  (fun hr => (spec_R24_Packets_eq a0 a1 a2 some).trans (h hr))
theorem mk_R24_Packets (h_R24_Tiles : G_R24_Tiles) (h_R23_Packets : G_R23_Packets) (h_R24_ValidTile : G_R24_ValidTile) (h : ∀ (a0 : SHeader) (a1 : SParams) (a2 : Int), pre_R24_Packets a0 a1 a2 = true → Real (av_R24_Packets a0 a1 a2) → spec_R24_Packets a0 a1 a2 some = some (V.int .i64 (m_R24_Packets a0 a1 a2))) : G_R24_Packets := goodHook1 fun l hp => by
  unfold hp_R24_Packets at hp
  split at hp
  · rename_i x0 x1 x2 x3 x4 x5 x6 x7 x8 x9 x10 x11 x12 x13 x14 x15 x16 x17 x18 x19 x20 x21 x22 x23 x24 x25 x26
    exact ok_R24_Packets h_R24_Tiles h_R23_Packets h_R24_ValidTile (SHeader.mk (SRect.mk x0 x1 x2 x3) x4 x5 x6) (SParams.mk x7 x8 x9 x10 x11 x12 x13 x14 (SMode.mk x15 x16 x17 x18 x19) x20 x21 x22 x23 x24 x25) x26 fun hr => h (SHeader.mk (SRect.mk x0 x1 x2 x3) x4 x5 x6) (SParams.mk x7 x8 x9 x10 x11 x12 x13 x14 (SMode.mk x15 x16 x17 x18 x19) x20 x21 x22 x23 x24 x25) x26 hp hr
  · cases hp
theorem au_R24_Packets (a0 : SHeader) (a1 : SParams) (a2 : Int) : pre_R24_Packets a0 a1 a2 = true → spec_R24_Packets a0 a1 a2 some = some ((fun (m : Int) => (V.int .i64 m)) (m_R24_Packets a0 a1 a2)) := by
  repeat' (first | exact fun _ => rfl | exact fun h => absurd h (by decide) | refine bif_p (v := (fun (m : Int) => (V.int .i64 m))) ?_ ?_)
theorem good_R24_Packets_of (h_R24_Tiles : G_R24_Tiles) (h_R23_Packets : G_R23_Packets) (h_R24_ValidTile : G_R24_ValidTile) : G_R24_Packets := mk_R24_Packets h_R24_Tiles h_R23_Packets h_R24_ValidTile (fun _ _ _ hp _ => au_R24_Packets _ _ _ hp)
noncomputable def fuel_R35_Few_0 (i0_0 i0_1 : Int) (a0 : SHeader) (a1 : SParams) : Nat :=
 Int.toNat (i0_0 - i0_1) + 1
noncomputable def step_R35_Few_0 {R : Type} (i0_0 : Int) (a0 : SHeader) (a1 : SParams) (i0_1 : Int) (again : Int → Option R) (kn : Int → Option R) (kr : V → Option R) : Option R :=
 bif (decide (i0_1 < i0_0)) then
 bif (pre_R24_Packets a0 a1 i0_1) then
 let c19 : Int := (m_R24_Packets a0 a1 i0_1)
 let b20 : Bool := (decide (c19 > (400 : Int)))
 bif b20 then
 kr (V.bool false)
 else
 let x21 : Int := (IntKind.wrap .i64 (i0_1 + (1 : Int)))
 again x21
 else none
 else
 kn i0_1
noncomputable def loop_R35_Few_0 {R : Type} (i0_0 : Int) (a0 : SHeader) (a1 : SParams) : Nat → Int → (Int → Option R) → (V → Option R) → Option R
  | 0, _, _, _ => none
  | n + 1, i0_1, kn, kr => step_R35_Few_0 i0_0 a0 a1 i0_1 (fun yi0_1 => loop_R35_Few_0 i0_0 a0 a1 n yi0_1 kn kr) kn kr
noncomputable def shape_R35_Few_0 : ST := ⟨.undef :: .undef :: .ptr 0 0 0 :: .ptr 1 0 0 :: unds 51 (.int .i64 :: .int .i64 :: unds 8 []), [(0, .var SHeader.sh false SHeader.ts), (1, .var SParams.sh false SParams.ts)], 58⟩
noncomputable def st_R35_Few_0 (i0_0 : Int) (a0 : SHeader) (a1 : SParams) (i0_1 : Int) : St := shape_R35_Few_0.put [.i i0_0, .i i0_1, .i a0.Area.X0, .i a0.Area.Y0, .i a0.Area.X1, .i a0.Area.Y1, .i a0.TileW, .i a0.TileH, .r a0.Components, .i a1.Kernel, .i a1.Levels, .i a1.Color, .i a1.BlockX, .i a1.BlockY, .r a1.Precincts, .i a1.Order, .i a1.Layers, .b a1.Mode.Bypass, .b a1.Mode.Restart, .b a1.Mode.Reset, .b a1.Mode.Causal, .b a1.Mode.Symbols, .b a1.Divide, .b a1.Sync, .b a1.Fence, .r a1.Steps, .i a1.Dead, .i a1.Shift]
noncomputable def hook_R35_Few_0 {R : Type} : LoopG R := fun l kn _ kr => match l with
  | .i i0_0 :: .i i0_1 :: .i a0_Area_X0 :: .i a0_Area_Y0 :: .i a0_Area_X1 :: .i a0_Area_Y1 :: .i a0_TileW :: .i a0_TileH :: .r a0_Components :: .i a1_Kernel :: .i a1_Levels :: .i a1_Color :: .i a1_BlockX :: .i a1_BlockY :: .r a1_Precincts :: .i a1_Order :: .i a1_Layers :: .b a1_Mode_Bypass :: .b a1_Mode_Restart :: .b a1_Mode_Reset :: .b a1_Mode_Causal :: .b a1_Mode_Symbols :: .b a1_Divide :: .b a1_Sync :: .b a1_Fence :: .r a1_Steps :: .i a1_Dead :: .i a1_Shift :: [] => loop_R35_Few_0 i0_0 (SHeader.mk (SRect.mk a0_Area_X0 a0_Area_Y0 a0_Area_X1 a0_Area_Y1) a0_TileW a0_TileH a0_Components) (SParams.mk a1_Kernel a1_Levels a1_Color a1_BlockX a1_BlockY a1_Precincts a1_Order a1_Layers (SMode.mk a1_Mode_Bypass a1_Mode_Restart a1_Mode_Reset a1_Mode_Causal a1_Mode_Symbols) a1_Divide a1_Sync a1_Fence a1_Steps a1_Dead a1_Shift) (fuel_R35_Few_0 i0_0 i0_1 (SHeader.mk (SRect.mk a0_Area_X0 a0_Area_Y0 a0_Area_X1 a0_Area_Y1) a0_TileW a0_TileH a0_Components) (SParams.mk a1_Kernel a1_Levels a1_Color a1_BlockX a1_BlockY a1_Precincts a1_Order a1_Layers (SMode.mk a1_Mode_Bypass a1_Mode_Restart a1_Mode_Reset a1_Mode_Causal a1_Mode_Symbols) a1_Divide a1_Sync a1_Fence a1_Steps a1_Dead a1_Shift)) i0_1 (fun yi0_1 => kn (st_R35_Few_0 i0_0 (SHeader.mk (SRect.mk a0_Area_X0 a0_Area_Y0 a0_Area_X1 a0_Area_Y1) a0_TileW a0_TileH a0_Components) (SParams.mk a1_Kernel a1_Levels a1_Color a1_BlockX a1_BlockY a1_Precincts a1_Order a1_Layers (SMode.mk a1_Mode_Bypass a1_Mode_Restart a1_Mode_Reset a1_Mode_Causal a1_Mode_Symbols) a1_Divide a1_Sync a1_Fence a1_Steps a1_Dead a1_Shift) yi0_1)) kr
  | _ => none
noncomputable def env_R35_Few {R : Type} : Env R := ⟨Tryz.prog, callCons 35 c_R23_Header (callCons 37 c_R24_Tiles (callCons 38 c_R23_Check (callCons 39 c_R24_Packets callNil))), fun id => bif Nat.beq id 0 then loopAlt shape_R35_Few_0 hook_R35_Few_0 loopNil else (fun _ _ _ _ _ => none) id, Tryz.f19.results.toList, maskTab 65 [(0, 0xf3fc001e780c), (1, 0xf3fc0020000c), (2, 0x10), (3, 0xf3fc0100000c), (4, 0x10), (5, 0x100000000000c), (6, 0x10), (7, 0x1000000000000c), (8, 0x10), (9, 0x18000000000000c), (10, 0x38000000000000c), (11, 0x18000000000002c), (12, 0x818000000000000c), (13, 0x10), (14, 0x18000000000000c), (15, 0x10)], maskAt [(1, 58), (2, 3), (4, 19), (6, 20), (8, 23), (10, 24), (12, 48), (14, 49), (16, 53), (18, 54), (20, 62), (22, 63), (24, 65), (26, 70), (28, 71), (30, 73)], noSort⟩
theorem step_R35_Few_0_eq {R : Type} (i0_0 : Int) (a0 : SHeader) (a1 : SParams) (si0_1 : Int) (kn : St → Option R) (kx : Nat → St → Option R) (kr : V → Option R) (n : Nat) (i0_1 : Int) :
    loopN env_R35_Few 0 (loopAt Tryz.f19 0) (st_R35_Few_0 i0_0 a0 a1 si0_1) kn kx kr (n + 1) (st_R35_Few_0 i0_0 a0 a1 i0_1) =
    step_R35_Few_0 i0_0 a0 a1 i0_1 (fun yi0_1 => loopN env_R35_Few 0 (loopAt Tryz.f19 0) (st_R35_Few_0 i0_0 a0 a1 si0_1) kn kx kr n (st_R35_Few_0 i0_0 a0 a1 yi0_1)) (fun yi0_1 => kn (st_R35_Few_0 i0_0 a0 a1 yi0_1)) kr := by kernel_rfl
theorem loop_R35_Few_0_eq {R : Type} (i0_0 : Int) (a0 : SHeader) (a1 : SParams) (si0_1 : Int) (kn : St → Option R) (kx : Nat → St → Option R) (kr : V → Option R) : ∀ (n : Nat) (i0_1 : Int),
    loop_R35_Few_0 i0_0 a0 a1 n i0_1 (fun yi0_1 => kn (st_R35_Few_0 i0_0 a0 a1 yi0_1)) kr = loopN env_R35_Few 0 (loopAt Tryz.f19 0) (st_R35_Few_0 i0_0 a0 a1 si0_1) kn kx kr n (st_R35_Few_0 i0_0 a0 a1 i0_1)
  | 0, _ => rfl
  | n + 1, i0_1 => by
    rw [step_R35_Few_0_eq, loop_R35_Few_0]
    congr 1
    funext yi0_1
    exact loop_R35_Few_0_eq i0_0 a0 a1 si0_1 kn kx kr n yi0_1
theorem goodl_R35_Few_0 {R : Type} {rest} (h : GoodL (R := R) env_R35_Few 0 (loopAt Tryz.f19 0) rest) : GoodL (R := R) env_R35_Few 0 (loopAt Tryz.f19 0) (loopAlt shape_R35_Few_0 hook_R35_Few_0 rest) := by
  refine goodL_alt (fun l kn kx kr r h => ?_) h
  unfold hook_R35_Few_0 at h
  split at h
  · rename_i i0_0 i0_1 a0_Area_X0 a0_Area_Y0 a0_Area_X1 a0_Area_Y1 a0_TileW a0_TileH a0_Components a1_Kernel a1_Levels a1_Color a1_BlockX a1_BlockY a1_Precincts a1_Order a1_Layers a1_Mode_Bypass a1_Mode_Restart a1_Mode_Reset a1_Mode_Causal a1_Mode_Symbols a1_Divide a1_Sync a1_Fence a1_Steps a1_Dead a1_Shift
    exact ⟨_, (loop_R35_Few_0_eq i0_0 (SHeader.mk (SRect.mk a0_Area_X0 a0_Area_Y0 a0_Area_X1 a0_Area_Y1) a0_TileW a0_TileH a0_Components) (SParams.mk a1_Kernel a1_Levels a1_Color a1_BlockX a1_BlockY a1_Precincts a1_Order a1_Layers (SMode.mk a1_Mode_Bypass a1_Mode_Restart a1_Mode_Reset a1_Mode_Causal a1_Mode_Symbols) a1_Divide a1_Sync a1_Fence a1_Steps a1_Dead a1_Shift) i0_1 kn kx kr _ i0_1).symm.trans h⟩
  · cases h
theorem good_R35_Few_0 {R : Type} : GoodLoop (R := R) env_R35_Few 0 (loopAt Tryz.f19 0) := goodL_loop (g := loopAlt shape_R35_Few_0 hook_R35_Few_0 loopNil) (fun _ _ _ _ => rfl) (goodl_R35_Few_0 goodL_nil)
noncomputable def spec_R35_Few {R : Type} (a0 : SHeader) (a1 : SParams) (k : V → Option R) : Option R :=
 let x1 : Int := (((List.length a0.Components) : Nat) : Int)
 let b2 : Bool := (decide (x1 > (10 : Int)))
 bif (b2 == false) then
 let x3 : Int := (((List.length a1.Precincts) : Nat) : Int)
 let b4 : Bool := (decide (x3 > (10 : Int)))
 bif (b4 == false) then
 let x5 : Int := (((List.length a1.Steps) : Nat) : Int)
 let b6 : Bool := (decide (x5 > (40 : Int)))
 bif b6 then
 k (V.bool false)
 else
 let c7 : Int := (m_R23_Header a0)
 bif (c7 != (0 : Int)) then
 k (V.bool true)
 else
 let x8 : Int := (IntKind.wrap .i64 (a0.Area.X1 - a0.Area.X0))
 let b9 : Bool := (decide (x8 > (40 : Int)))
 let x10 : Int := (IntKind.wrap .i64 (a0.Area.Y1 - a0.Area.Y0))
 let b11 : Bool := (decide (x10 > (40 : Int)))
 let b12 : Bool := (bif b9 then true else b11)
 bif (b12 == false) then
 let c13 : Rows := (m_R24_Tiles a0)
 let x14 : Int := (((List.length c13) : Nat) : Int)
 let b15 : Bool := (decide (x14 > (16 : Int)))
 bif b15 then
 k (V.bool false)
 else
 let c16 : Int := (m_R23_Check a0 a1)
 bif (c16 != (0 : Int)) then
 k (V.bool true)
 else
 let c17 : Rows := (m_R24_Tiles a0)
 let x18 : Int := (((List.length c17) : Nat) : Int)
 loop_R35_Few_0 x18 a0 a1 (fuel_R35_Few_0 x18 (0 : Int) a0 a1) (0 : Int) (fun i0_z22 =>
 k (V.bool true)) k
 else
 k (V.bool false)
 else
 k (V.bool false)
 else
 k (V.bool false)
abbrev av_R35_Few (a0 : SHeader) (a1 : SParams) : List V := [(SHeader.v a0), (SParams.v a1)]
theorem spec_R35_Few_eq {R : Type} (a0 : SHeader) (a1 : SParams) (k : V → Option R) : fnK env_R35_Few Tryz.f19 (av_R35_Few a0 a1) k = spec_R35_Few a0 a1 k := by kernel_rfl
theorem ok_R35_Few (h_R23_Header : G_R23_Header) (h_R24_Tiles : G_R24_Tiles) (h_R23_Check : G_R23_Check) (h_R24_Packets : G_R24_Packets) (a0 : SHeader) (a1 : SParams) {v : V} (h : Real (av_R35_Few a0 a1) → spec_R35_Few a0 a1 some = some v) : FunOK Tryz.prog 19 (av_R35_Few a0 a1) v :=
  fn_ok (fn := Tryz.f19) (c := bodyOf Tryz.f19) (E := env_R35_Few) ⟨by kernel_rfl, (goodCons h_R23_Header (goodCons h_R24_Tiles (goodCons h_R23_Check (goodCons h_R24_Packets goodNil)))), rfl, goodS_no⟩ rfl (by kernel_rfl) (by kernel_rfl) (by kernel_rfl)
  (loopsOK_of _ (by
    have e : loopsOf (bodyOf Tryz.f19) = [(0, loopAt Tryz.f19 0)] := by kernel_rfl
    rw [e]
    simp only [List.forall_mem_cons, List.not_mem_nil, false_implies, implies_true, and_true]
    exact good_R35_Few_0))
  (fun hr => (spec_R35_Few_eq a0 a1 some).trans (h hr))
theorem mk_R35_Few (h_R23_Header : G_R23_Header) (h_R24_Tiles : G_R24_Tiles) (h_R23_Check : G_R23_Check) (h_R24_Packets : G_R24_Packets) (h : ∀ (a0 : SHeader) (a1 : SParams), Real (av_R35_Few a0 a1) → spec_R35_Few a0 a1 some = some (V.bool (m_R35_Few a0 a1))) : G_R35_Few := goodHook1 fun l hp => by
  unfold hp_R35_Few at hp
  split at hp
  · rename_i x0 x1 x2 x3 x4 x5 x6 x7 x8 x9 x10 x11 x12 x13 x14 x15 x16 x17 x18 x19 x20 x21 x22 x23 x24 x25
    exact ok_R35_Few h_R23_Header h_R24_Tiles h_R23_Check h_R24_Packets (SHeader.mk (SRect.mk x0 x1 x2 x3) x4 x5 x6) (SParams.mk x7 x8 x9 x10 x11 x12 x13 x14 (SMode.mk x15 x16 x17 x18 x19) x20 x21 x22 x23 x24 x25) fun hr => h (SHeader.mk (SRect.mk x0 x1 x2 x3) x4 x5 x6) (SParams.mk x7 x8 x9 x10 x11 x12 x13 x14 (SMode.mk x15 x16 x17 x18 x19) x20 x21 x22 x23 x24 x25) hr
  · cases hp
noncomputable def env_R35_FewBytes {R : Type} : Env R := ⟨Tryz.prog, callCons 15 c_R28_All (callCons 16 c_R29_ParseSize (callCons 17 c_R29_ParseCoding (callCons 18 c_R29_ParseQuant (callCons 19 c_R35_Few callNil)))), fun _ _ _ _ _ => none, Tryz.f8.results.toList, maskTab 60 [(0, 0x700000003800001), (1, 0x700000003800401), (2, 0x4), (3, 0x700000003802001), (4, 0x4), (5, 0x700000003800028), (6, 0x700000004000008), (7, 0x4), (8, 0x700000000000068), (9, 0x700000800000048), (10, 0x4), (11, 0x7000000000000e8), (12, 0x7001000000000c8), (13, 0x4), (14, 0x7000000000000e0), (15, 0x4)], maskAt [(2, 1), (4, 4), (6, 5), (8, 8), (10, 9), (12, 18), (14, 25), (16, 26), (18, 36), (20, 38), (22, 39), (24, 49), (26, 51), (28, 52), (30, 62)], noSort⟩
noncomputable def spec_R35_FewBytes {R : Type} (a0 : Rows) (k : V → Option R) : Option R :=
 let x1 : Int := (((List.length a0) : Nat) : Int)
 let b2 : Bool := (decide (x1 > (20000 : Int)))
 bif b2 then
 k (V.bool false)
 else
 let x3 : Int := (((List.length a0) : Nat) : Int)
 let b4 : Bool := (decide (x3 < (2 : Int)))
 bif b4 then
 k (V.bool true)
 else
 bif (pre_R28_All a0 (2 : Int)) then
 let c5 : Rows × Int × Int := (m_R28_All a0 (2 : Int))
 bif ((c5.2.2 != (0 : Int)) == false) then
 let x6 : Int := (((List.length c5.1) : Nat) : Int)
 let b7 : Bool := (decide (x6 < (3 : Int)))
 bif b7 then
 k (V.bool true)
 else
 bif (inR (0 : Int) (List.length c5.1)) then
 let w8 : List V := (List.getD c5.1 (0 : Nat) [])
 let s9 : SSegment := (SSegment.of w8)
 bif (pre_R29_ParseSize s9) then
 let c10 : SHeader × Int := (m_R29_ParseSize s9)
 bif (c10.2 != (0 : Int)) then
 k (V.bool true)
 else
 bif (inR (1 : Int) (List.length c5.1)) then
 let w11 : List V := (List.getD c5.1 (1 : Nat) [])
 let s12 : SSegment := (SSegment.of w11)
 bif (pre_R29_ParseCoding s12) then
 let c13 : SParams × Int := (m_R29_ParseCoding s12)
 bif (c13.2 != (0 : Int)) then
 k (V.bool true)
 else
 bif (inR (2 : Int) (List.length c5.1)) then
 let w14 : List V := (List.getD c5.1 (2 : Nat) [])
 let s15 : SSegment := (SSegment.of w14)
 bif (pre_R29_ParseQuant s15 c13.1) then
 let c16 : SParams × Int := (m_R29_ParseQuant s15 c13.1)
 bif ((c16.2 != (0 : Int)) == false) then
 let c17 : Bool := (m_R35_Few c10.1 c16.1)
 k (V.bool c17)
 else
 k (V.bool true)
 else none
 else none
 else none
 else none
 else none
 else none
 else
 k (V.bool true)
 else none
abbrev av_R35_FewBytes (a0 : Rows) : List V := [(V.data [.int .u8] a0)]
theorem spec_R35_FewBytes_eq {R : Type} (a0 : Rows) (k : V → Option R) : fnK env_R35_FewBytes Tryz.f8 (av_R35_FewBytes a0) k = spec_R35_FewBytes a0 k := by kernel_rfl
theorem ok_R35_FewBytes (h_R28_All : G_R28_All) (h_R29_ParseSize : G_R29_ParseSize) (h_R29_ParseCoding : G_R29_ParseCoding) (h_R29_ParseQuant : G_R29_ParseQuant) (h_R35_Few : G_R35_Few) (a0 : Rows) {v : V} (h : Real (av_R35_FewBytes a0) → spec_R35_FewBytes a0 some = some v) : FunOK Tryz.prog 8 (av_R35_FewBytes a0) v :=
  fn_ok (fn := Tryz.f8) (c := bodyOf Tryz.f8) (E := env_R35_FewBytes) ⟨by kernel_rfl, (goodCons h_R28_All (goodCons h_R29_ParseSize (goodCons h_R29_ParseCoding (goodCons h_R29_ParseQuant (goodCons h_R35_Few goodNil))))), rfl, goodS_no⟩ rfl (by kernel_rfl) (by kernel_rfl) (by kernel_rfl)
  (loopsOK_of _ (by
    have e : loopsOf (bodyOf Tryz.f8) = [] := by kernel_rfl
    rw [e]
    intro p hp; cases hp))
  (fun hr => (spec_R35_FewBytes_eq a0 some).trans (h hr))
theorem mk_R35_FewBytes (h_R28_All : G_R28_All) (h_R29_ParseSize : G_R29_ParseSize) (h_R29_ParseCoding : G_R29_ParseCoding) (h_R29_ParseQuant : G_R29_ParseQuant) (h_R35_Few : G_R35_Few) (h : ∀ (a0 : Rows), pre_R35_FewBytes a0 = true → Real (av_R35_FewBytes a0) → spec_R35_FewBytes a0 some = some (V.bool (m_R35_FewBytes a0))) : G_R35_FewBytes := goodHook1 fun l hp => by
  unfold hp_R35_FewBytes at hp
  split at hp
  · rename_i x0
    exact ok_R35_FewBytes h_R28_All h_R29_ParseSize h_R29_ParseCoding h_R29_ParseQuant h_R35_Few x0 fun hr => h x0 hp hr
  · cases hp
theorem au_R35_FewBytes (a0 : Rows) : pre_R35_FewBytes a0 = true → spec_R35_FewBytes a0 some = some ((fun (m : Bool) => (V.bool m)) (m_R35_FewBytes a0)) := by
  repeat' (first | exact fun _ => rfl | exact fun h => absurd h (by decide) | refine bif_p (v := (fun (m : Bool) => (V.bool m))) ?_ ?_)
theorem good_R35_FewBytes_of (h_R28_All : G_R28_All) (h_R29_ParseSize : G_R29_ParseSize) (h_R29_ParseCoding : G_R29_ParseCoding) (h_R29_ParseQuant : G_R29_ParseQuant) (h_R35_Few : G_R35_Few) : G_R35_FewBytes := mk_R35_FewBytes h_R28_All h_R29_ParseSize h_R29_ParseCoding h_R29_ParseQuant h_R35_Few (fun _ hp _ => au_R35_FewBytes _ hp)
noncomputable def fuel_R48_Few_0 (r0_0 : Rows) (i0_1 i0_2 : Int) (a0 : SFile) : Nat :=
 Int.toNat (i0_1 - i0_2) + 1
noncomputable def step_R48_Few_0 {R : Type} (r0_0 : Rows) (i0_1 : Int) (a0 : SFile) (i0_2 : Int) (again : Int → Option R) (kn : Int → Option R) (kr : V → Option R) : Option R :=
 bif (decide (i0_2 < i0_1)) then
 bif (inR i0_2 (List.length r0_0)) then
 let w9 : List V := (List.getD r0_0 (Int.toNat i0_2) [])
 let s10 : SMeta := (SMeta.of w9)
 let x11 : Int := ((ByteArray.size s10.Key : Nat) : Int)
 let b12 : Bool := (decide (x11 > (70 : Int)))
 bif (b12 == false) then
 let x13 : Int := ((ByteArray.size s10.Value : Nat) : Int)
 let b14 : Bool := (decide (x13 > (200 : Int)))
 bif b14 then
 kr (V.bool false)
 else
 let x15 : Int := (IntKind.wrap .i64 (i0_2 + (1 : Int)))
 again x15
 else
 kr (V.bool false)
 else none
 else
 kn i0_2
noncomputable def loop_R48_Few_0 {R : Type} (r0_0 : Rows) (i0_1 : Int) (a0 : SFile) : Nat → Int → (Int → Option R) → (V → Option R) → Option R
  | 0, _, _, _ => none
  | n + 1, i0_2, kn, kr => step_R48_Few_0 r0_0 i0_1 a0 i0_2 (fun yi0_2 => loop_R48_Few_0 r0_0 i0_1 a0 n yi0_2 kn kr) kn kr
noncomputable def shape_R48_Few_0 : ST := ⟨.undef :: .ptr 0 0 0 :: unds 30 (.data SMeta.sh :: .int .i64 :: .int .i64 :: unds 26 []), [(0, .var SFile.sh false SFile.ts)], 31⟩
noncomputable def st_R48_Few_0 (r0_0 : Rows) (i0_1 : Int) (a0 : SFile) (i0_2 : Int) : St := shape_R48_Few_0.put [.r r0_0, .i i0_1, .i i0_2, .i a0.Color.Space, .r a0.Color.Roles, .r a0.Color.Palette, .r a0.Meta, .r a0.Stream]
noncomputable def hook_R48_Few_0 {R : Type} : LoopG R := fun l kn _ kr => match l with
  | .r r0_0 :: .i i0_1 :: .i i0_2 :: .i a0_Color_Space :: .r a0_Color_Roles :: .r a0_Color_Palette :: .r a0_Meta :: .r a0_Stream :: [] => loop_R48_Few_0 r0_0 i0_1 (SFile.mk (SColor.mk a0_Color_Space a0_Color_Roles a0_Color_Palette) a0_Meta a0_Stream) (fuel_R48_Few_0 r0_0 i0_1 i0_2 (SFile.mk (SColor.mk a0_Color_Space a0_Color_Roles a0_Color_Palette) a0_Meta a0_Stream)) i0_2 (fun yi0_2 => kn (st_R48_Few_0 r0_0 i0_1 (SFile.mk (SColor.mk a0_Color_Space a0_Color_Roles a0_Color_Palette) a0_Meta a0_Stream) yi0_2)) kr
  | _ => none
noncomputable def fuel_R48_Few_2 (r2_0 : Rows) (i2_1 i2_2 : Int) : Nat :=
 Int.toNat (i2_1 - i2_2) + 1
noncomputable def step_R48_Few_2 {R : Type} (r2_0 : Rows) (i2_1 : Int) (i2_2 : Int) (again : Int → Option R) (kn : Int → Option R) (kr : V → Option R) : Option R :=
 bif (decide (i2_2 < i2_1)) then
 bif (inR i2_2 (List.length r2_0)) then
 let w18 : List V := (List.getD r2_0 (Int.toNat i2_2) [])
 let r19 : Rows := (V.toRows (List.getD w18 0 V.undef))
 let x20 : Int := (((List.length r19) : Nat) : Int)
 let b21 : Bool := (decide (x20 > (10 : Int)))
 bif b21 then
 kr (V.bool false)
 else
 let x22 : Int := (IntKind.wrap .i64 (i2_2 + (1 : Int)))
 again x22
 else none
 else
 kn i2_2
noncomputable def loop_R48_Few_2 {R : Type} (r2_0 : Rows) (i2_1 : Int) : Nat → Int → (Int → Option R) → (V → Option R) → Option R
  | 0, _, _, _ => none
  | n + 1, i2_2, kn, kr => step_R48_Few_2 r2_0 i2_1 i2_2 (fun yi2_2 => loop_R48_Few_2 r2_0 i2_1 n yi2_2 kn kr) kn kr
noncomputable def shape_R48_Few_2 : ST := ⟨unds 51 (.data [.sl Sbox_reader.sh] :: .int .i64 :: .int .i64 :: unds 7 []), [], 58⟩
noncomputable def st_R48_Few_2 (r2_0 : Rows) (i2_1 : Int) (i2_2 : Int) : St := shape_R48_Few_2.put [.r r2_0, .i i2_1, .i i2_2]
noncomputable def hook_R48_Few_2 {R : Type} : LoopG R := fun l kn _ kr => match l with
  | .r r2_0 :: .i i2_1 :: .i i2_2 :: [] => loop_R48_Few_2 r2_0 i2_1 (fuel_R48_Few_2 r2_0 i2_1 i2_2) i2_2 (fun yi2_2 => kn (st_R48_Few_2 r2_0 i2_1 yi2_2)) kr
  | _ => none
noncomputable def env_R48_Few {R : Type} : Env R := ⟨Tryz.prog, callCons 8 c_R35_FewBytes callNil, fun id => bif Nat.beq id 0 then loopAlt shape_R48_Few_0 hook_R48_Few_0 loopNil else (fun id => bif Nat.beq id 2 then loopAlt shape_R48_Few_2 hook_R48_Few_2 loopNil else (fun _ _ _ _ _ => none) id) id, Tryz.f4.results.toList, maskTab 61 [(0, 0x78003e7cf002), (1, 0x780040000002), (2, 0x4), (3, 0x780700000002), (4, 0x780f00000002), (5, 0x780700000012), (6, 0xf80700000002), (7, 0x4), (8, 0x780700000002), (9, 0x38000000000000), (10, 0x78000000000000), (11, 0x38000000000040), (12, 0x838000000000000), (13, 0x4), (14, 0x38000000000000), (15, 0x4)], maskAt [(1, 31), (2, 2), (4, 26), (5, 58), (6, 27), (8, 35), (10, 36), (12, 40), (14, 50), (16, 51), (18, 53), (20, 62), (22, 63), (24, 66), (26, 69), (28, 70), (30, 72)], noSort⟩
theorem step_R48_Few_0_eq {R : Type} (r0_0 : Rows) (i0_1 : Int) (a0 : SFile) (si0_2 : Int) (kn : St → Option R) (kx : Nat → St → Option R) (kr : V → Option R) (n : Nat) (i0_2 : Int) :
    loopN env_R48_Few 0 (loopAt Tryz.f4 0) (st_R48_Few_0 r0_0 i0_1 a0 si0_2) kn kx kr (n + 1) (st_R48_Few_0 r0_0 i0_1 a0 i0_2) =
    step_R48_Few_0 r0_0 i0_1 a0 i0_2 (fun yi0_2 => loopN env_R48_Few 0 (loopAt Tryz.f4 0) (st_R48_Few_0 r0_0 i0_1 a0 si0_2) kn kx kr n (st_R48_Few_0 r0_0 i0_1 a0 yi0_2)) (fun yi0_2 => kn (st_R48_Few_0 r0_0 i0_1 a0 yi0_2)) kr := by kernel_rfl
theorem loop_R48_Few_0_eq {R : Type} (r0_0 : Rows) (i0_1 : Int) (a0 : SFile) (si0_2 : Int) (kn : St → Option R) (kx : Nat → St → Option R) (kr : V → Option R) : ∀ (n : Nat) (i0_2 : Int),
    loop_R48_Few_0 r0_0 i0_1 a0 n i0_2 (fun yi0_2 => kn (st_R48_Few_0 r0_0 i0_1 a0 yi0_2)) kr = loopN env_R48_Few 0 (loopAt Tryz.f4 0) (st_R48_Few_0 r0_0 i0_1 a0 si0_2) kn kx kr n (st_R48_Few_0 r0_0 i0_1 a0 i0_2)
  | 0, _ => rfl
  | n + 1, i0_2 => by
    rw [step_R48_Few_0_eq, loop_R48_Few_0]
    congr 1
    funext yi0_2
    exact loop_R48_Few_0_eq r0_0 i0_1 a0 si0_2 kn kx kr n yi0_2
theorem goodl_R48_Few_0 {R : Type} {rest} (h : GoodL (R := R) env_R48_Few 0 (loopAt Tryz.f4 0) rest) : GoodL (R := R) env_R48_Few 0 (loopAt Tryz.f4 0) (loopAlt shape_R48_Few_0 hook_R48_Few_0 rest) := by
  refine goodL_alt (fun l kn kx kr r h => ?_) h
  unfold hook_R48_Few_0 at h
  split at h
  · rename_i r0_0 i0_1 i0_2 a0_Color_Space a0_Color_Roles a0_Color_Palette a0_Meta a0_Stream
    exact ⟨_, (loop_R48_Few_0_eq r0_0 i0_1 (SFile.mk (SColor.mk a0_Color_Space a0_Color_Roles a0_Color_Palette) a0_Meta a0_Stream) i0_2 kn kx kr _ i0_2).symm.trans h⟩
  · cases h
theorem step_R48_Few_2_eq {R : Type} (r2_0 : Rows) (i2_1 : Int) (si2_2 : Int) (kn : St → Option R) (kx : Nat → St → Option R) (kr : V → Option R) (n : Nat) (i2_2 : Int) :
    loopN env_R48_Few 2 (loopAt Tryz.f4 1) (st_R48_Few_2 r2_0 i2_1 si2_2) kn kx kr (n + 1) (st_R48_Few_2 r2_0 i2_1 i2_2) =
    step_R48_Few_2 r2_0 i2_1 i2_2 (fun yi2_2 => loopN env_R48_Few 2 (loopAt Tryz.f4 1) (st_R48_Few_2 r2_0 i2_1 si2_2) kn kx kr n (st_R48_Few_2 r2_0 i2_1 yi2_2)) (fun yi2_2 => kn (st_R48_Few_2 r2_0 i2_1 yi2_2)) kr := by kernel_rfl
theorem loop_R48_Few_2_eq {R : Type} (r2_0 : Rows) (i2_1 : Int) (si2_2 : Int) (kn : St → Option R) (kx : Nat → St → Option R) (kr : V → Option R) : ∀ (n : Nat) (i2_2 : Int),
    loop_R48_Few_2 r2_0 i2_1 n i2_2 (fun yi2_2 => kn (st_R48_Few_2 r2_0 i2_1 yi2_2)) kr = loopN env_R48_Few 2 (loopAt Tryz.f4 1) (st_R48_Few_2 r2_0 i2_1 si2_2) kn kx kr n (st_R48_Few_2 r2_0 i2_1 i2_2)
  | 0, _ => rfl
  | n + 1, i2_2 => by
    rw [step_R48_Few_2_eq, loop_R48_Few_2]
    congr 1
    funext yi2_2
    exact loop_R48_Few_2_eq r2_0 i2_1 si2_2 kn kx kr n yi2_2
theorem goodl_R48_Few_2 {R : Type} {rest} (h : GoodL (R := R) env_R48_Few 2 (loopAt Tryz.f4 1) rest) : GoodL (R := R) env_R48_Few 2 (loopAt Tryz.f4 1) (loopAlt shape_R48_Few_2 hook_R48_Few_2 rest) := by
  refine goodL_alt (fun l kn kx kr r h => ?_) h
  unfold hook_R48_Few_2 at h
  split at h
  · rename_i r2_0 i2_1 i2_2
    exact ⟨_, (loop_R48_Few_2_eq r2_0 i2_1 i2_2 kn kx kr _ i2_2).symm.trans h⟩
  · cases h
theorem good_R48_Few_0 {R : Type} : GoodLoop (R := R) env_R48_Few 0 (loopAt Tryz.f4 0) := goodL_loop (g := loopAlt shape_R48_Few_0 hook_R48_Few_0 loopNil) (fun _ _ _ _ => rfl) (goodl_R48_Few_0 goodL_nil)
theorem good_R48_Few_2 {R : Type} : GoodLoop (R := R) env_R48_Few 2 (loopAt Tryz.f4 1) := goodL_loop (g := loopAlt shape_R48_Few_2 hook_R48_Few_2 loopNil) (fun _ _ _ _ => rfl) (goodl_R48_Few_2 goodL_nil)
noncomputable def spec_R48_Few {R : Type} (a0 : SFile) (k : V → Option R) : Option R :=
 bif (pre_R35_FewBytes a0.Stream) then
 let c1 : Bool := (m_R35_FewBytes a0.Stream)
 bif ((!c1) == false) then
 let x2 : Int := (((List.length a0.Meta) : Nat) : Int)
 let b3 : Bool := (decide (x2 > (70 : Int)))
 bif (b3 == false) then
 let x4 : Int := (((List.length a0.Color.Roles) : Nat) : Int)
 let b5 : Bool := (decide (x4 > (10 : Int)))
 bif (b5 == false) then
 let x6 : Int := (((List.length a0.Color.Palette) : Nat) : Int)
 let b7 : Bool := (decide (x6 > (300 : Int)))
 bif b7 then
 k (V.bool false)
 else
 let x8 : Int := (((List.length a0.Meta) : Nat) : Int)
 loop_R48_Few_0 a0.Meta x8 a0 (fuel_R48_Few_0 a0.Meta x8 (0 : Int) a0) (0 : Int) (fun i0_z16 =>
 let x17 : Int := (((List.length a0.Color.Palette) : Nat) : Int)
 loop_R48_Few_2 a0.Color.Palette x17 (fuel_R48_Few_2 a0.Color.Palette x17 (0 : Int)) (0 : Int) (fun i2_z23 =>
 k (V.bool true)) k) k
 else
 k (V.bool false)
 else
 k (V.bool false)
 else
 k (V.bool false)
 else none
abbrev av_R48_Few (a0 : SFile) : List V := [(SFile.v a0)]
theorem spec_R48_Few_eq {R : Type} (a0 : SFile) (k : V → Option R) : fnK env_R48_Few Tryz.f4 (av_R48_Few a0) k = spec_R48_Few a0 k := by kernel_rfl
theorem ok_R48_Few (h_R35_FewBytes : G_R35_FewBytes) (a0 : SFile) {v : V} (h : Real (av_R48_Few a0) → spec_R48_Few a0 some = some v) : FunOK Tryz.prog 4 (av_R48_Few a0) v :=
  fn_ok (fn := Tryz.f4) (c := bodyOf Tryz.f4) (E := env_R48_Few) ⟨by kernel_rfl, (goodCons h_R35_FewBytes goodNil), rfl, goodS_no⟩ rfl (by kernel_rfl) (by kernel_rfl) (by kernel_rfl)
  (loopsOK_of _ (by
    have e : loopsOf (bodyOf Tryz.f4) = [(0, loopAt Tryz.f4 0), (2, loopAt Tryz.f4 1)] := by kernel_rfl
    rw [e]
    simp only [List.forall_mem_cons, List.not_mem_nil, false_implies, implies_true, and_true]
    exact ⟨good_R48_Few_0, good_R48_Few_2⟩))
  (fun hr => (spec_R48_Few_eq a0 some).trans (h hr))
theorem mk_R48_Few (h_R35_FewBytes : G_R35_FewBytes) (h : ∀ (a0 : SFile), pre_R48_Few a0 = true → Real (av_R48_Few a0) → spec_R48_Few a0 some = some (V.bool (m_R48_Few a0))) : G_R48_Few := goodHook1 fun l hp => by
  unfold hp_R48_Few at hp
  split at hp
  · rename_i x0 x1 x2 x3 x4
    exact ok_R48_Few h_R35_FewBytes (SFile.mk (SColor.mk x0 x1 x2) x3 x4) fun hr => h (SFile.mk (SColor.mk x0 x1 x2) x3 x4) hp hr
  · cases hp
noncomputable def env_L48_awake {R : Type} : Env R := ⟨Tryz.prog, callCons 9 c_file_Parse (callCons 10 c_file_Valid callNil), fun _ _ _ _ _ => none, Tryz.f5.results.toList, maskTab 15 [(0, 0x3800), (1, 0x3804), (2, 0x1)], maskAt [(2, 1), (4, 9)], noSort⟩
noncomputable def spec_L48_awake {R : Type} (k : V → Option R) : Option R :=
 bif (pre_file_Parse [[(V.int .u8 (0 : Int))], [(V.int .u8 (0 : Int))], [(V.int .u8 (0 : Int))], [(V.int .u8 (12 : Int))], [(V.int .u8 (115 : Int))], [(V.int .u8 (105 : Int))], [(V.int .u8 (103 : Int))], [(V.int .u8 (110 : Int))], [(V.int .u8 (13 : Int))], [(V.int .u8 (10 : Int))], [(V.int .u8 (135 : Int))], [(V.int .u8 (10 : Int))]]) then
 let c1 : SFile × Int := (m_file_Parse [[(V.int .u8 (0 : Int))], [(V.int .u8 (0 : Int))], [(V.int .u8 (0 : Int))], [(V.int .u8 (12 : Int))], [(V.int .u8 (115 : Int))], [(V.int .u8 (105 : Int))], [(V.int .u8 (103 : Int))], [(V.int .u8 (110 : Int))], [(V.int .u8 (13 : Int))], [(V.int .u8 (10 : Int))], [(V.int .u8 (135 : Int))], [(V.int .u8 (10 : Int))]])
 bif ((c1.2 == (20 : Int)) == true) then
 bif (pre_file_Valid (SFile.mk (SColor.mk (0 : Int) [] []) [] [])) then
 let c2 : Int := (m_file_Valid (SFile.mk (SColor.mk (0 : Int) [] []) [] []))
 k (V.bool (c2 == (10 : Int)))
 else none
 else
 k (V.bool false)
 else none
abbrev av_L48_awake : List V := []
theorem spec_L48_awake_eq {R : Type} (k : V → Option R) : fnK env_L48_awake Tryz.f5 (av_L48_awake) k = spec_L48_awake k := by kernel_rfl
theorem ok_L48_awake (h_file_Parse : G_file_Parse) (h_file_Valid : G_file_Valid) {v : V} (h : Real (av_L48_awake) → spec_L48_awake some = some v) : FunOK Tryz.prog 5 (av_L48_awake) v :=
  fn_ok (fn := Tryz.f5) (c := bodyOf Tryz.f5) (E := env_L48_awake) ⟨by kernel_rfl, (goodCons h_file_Parse (goodCons h_file_Valid goodNil)), rfl, goodS_no⟩ rfl (by kernel_rfl) (by kernel_rfl) (by kernel_rfl)
  (loopsOK_of _ (by
    have e : loopsOf (bodyOf Tryz.f5) = [] := by kernel_rfl
    rw [e]
    intro p hp; cases hp))
  (fun hr => (spec_L48_awake_eq some).trans (h hr))
theorem mk_L48_awake (h_file_Parse : G_file_Parse) (h_file_Valid : G_file_Valid) (h : Real (av_L48_awake) → spec_L48_awake some = some (V.bool m_L48_awake)) : G_L48_awake := goodHook1 fun l hp => by
  unfold hp_L48_awake at hp
  split at hp
  · skip
    exact ok_L48_awake h_file_Parse h_file_Valid fun hr => h hr
  · cases hp
noncomputable def fuel_slices_Equal_int_int_0 (r0_0 r0_1 : Rows) (i0_2 i0_3 : Int) : Nat :=
 Int.toNat (i0_2 - i0_3) + 1
noncomputable def step_slices_Equal_int_int_0 {R : Type} (r0_0 r0_1 : Rows) (i0_2 : Int) (i0_3 : Int) (again : Int → Option R) (kn : Int → Option R) (kr : V → Option R) : Option R :=
 bif (decide (i0_3 < i0_2)) then
 bif (inR i0_3 (List.length r0_0)) then
 let w4 : List V := (List.getD r0_0 (Int.toNat i0_3) [])
 let x5 : Int := (V.toInt (List.getD w4 0 V.undef))
 bif (inR i0_3 (List.length r0_1)) then
 let w6 : List V := (List.getD r0_1 (Int.toNat i0_3) [])
 let x7 : Int := (V.toInt (List.getD w6 0 V.undef))
 bif (x5 != x7) then
 kr (V.bool false)
 else
 let x8 : Int := (IntKind.wrap .i64 (i0_3 + (1 : Int)))
 again x8
 else none
 else none
 else
 kn i0_3
noncomputable def loop_slices_Equal_int_int_0 {R : Type} (r0_0 r0_1 : Rows) (i0_2 : Int) : Nat → Int → (Int → Option R) → (V → Option R) → Option R
  | 0, _, _, _ => none
  | n + 1, i0_3, kn, kr => step_slices_Equal_int_int_0 r0_0 r0_1 i0_2 i0_3 (fun yi0_3 => loop_slices_Equal_int_int_0 r0_0 r0_1 i0_2 n yi0_3 kn kr) kn kr
noncomputable def shape_slices_Equal_int_int_0 : ST := ⟨.data Sbox_reader.sh :: .data Sbox_reader.sh :: unds 10 (.int .i64 :: .int .i64 :: unds 12 []), [], 10⟩
noncomputable def st_slices_Equal_int_int_0 (r0_0 r0_1 : Rows) (i0_2 : Int) (i0_3 : Int) : St := shape_slices_Equal_int_int_0.put [.r r0_0, .r r0_1, .i i0_2, .i i0_3]
noncomputable def hook_slices_Equal_int_int_0 {R : Type} : LoopG R := fun l kn _ kr => match l with
  | .r r0_0 :: .r r0_1 :: .i i0_2 :: .i i0_3 :: [] => loop_slices_Equal_int_int_0 r0_0 r0_1 i0_2 (fuel_slices_Equal_int_int_0 r0_0 r0_1 i0_2 i0_3) i0_3 (fun yi0_3 => kn (st_slices_Equal_int_int_0 r0_0 r0_1 i0_2 yi0_3)) kr
  | _ => none
noncomputable def env_slices_Equal_int_int {R : Type} : Env R := ⟨Tryz.prog, callNil, fun id => bif Nat.beq id 0 then loopAlt shape_slices_Equal_int_int_0 hook_slices_Equal_int_int_0 loopNil else (fun _ _ _ _ _ => none) id, Tryz.f27.results.toList, maskTab 26 [(0, 0x3), (1, 0x403), (2, 0x10), (3, 0x3003), (4, 0x7003), (5, 0x3023), (6, 0x1003003), (7, 0x10), (8, 0x3003), (9, 0x10)], maskAt [(1, 10), (2, 1), (4, 6), (6, 7), (8, 14), (10, 15), (12, 17), (14, 26), (16, 27), (18, 29)], noSort⟩
theorem step_slices_Equal_int_int_0_eq {R : Type} (r0_0 r0_1 : Rows) (i0_2 : Int) (si0_3 : Int) (kn : St → Option R) (kx : Nat → St → Option R) (kr : V → Option R) (n : Nat) (i0_3 : Int) :
    loopN env_slices_Equal_int_int 0 (loopAt Tryz.f27 0) (st_slices_Equal_int_int_0 r0_0 r0_1 i0_2 si0_3) kn kx kr (n + 1) (st_slices_Equal_int_int_0 r0_0 r0_1 i0_2 i0_3) =
    step_slices_Equal_int_int_0 r0_0 r0_1 i0_2 i0_3 (fun yi0_3 => loopN env_slices_Equal_int_int 0 (loopAt Tryz.f27 0) (st_slices_Equal_int_int_0 r0_0 r0_1 i0_2 si0_3) kn kx kr n (st_slices_Equal_int_int_0 r0_0 r0_1 i0_2 yi0_3)) (fun yi0_3 => kn (st_slices_Equal_int_int_0 r0_0 r0_1 i0_2 yi0_3)) kr := by kernel_rfl
theorem loop_slices_Equal_int_int_0_eq {R : Type} (r0_0 r0_1 : Rows) (i0_2 : Int) (si0_3 : Int) (kn : St → Option R) (kx : Nat → St → Option R) (kr : V → Option R) : ∀ (n : Nat) (i0_3 : Int),
    loop_slices_Equal_int_int_0 r0_0 r0_1 i0_2 n i0_3 (fun yi0_3 => kn (st_slices_Equal_int_int_0 r0_0 r0_1 i0_2 yi0_3)) kr = loopN env_slices_Equal_int_int 0 (loopAt Tryz.f27 0) (st_slices_Equal_int_int_0 r0_0 r0_1 i0_2 si0_3) kn kx kr n (st_slices_Equal_int_int_0 r0_0 r0_1 i0_2 i0_3)
  | 0, _ => rfl
  | n + 1, i0_3 => by
    rw [step_slices_Equal_int_int_0_eq, loop_slices_Equal_int_int_0]
    congr 1
    funext yi0_3
    exact loop_slices_Equal_int_int_0_eq r0_0 r0_1 i0_2 si0_3 kn kx kr n yi0_3
theorem goodl_slices_Equal_int_int_0 {R : Type} {rest} (h : GoodL (R := R) env_slices_Equal_int_int 0 (loopAt Tryz.f27 0) rest) : GoodL (R := R) env_slices_Equal_int_int 0 (loopAt Tryz.f27 0) (loopAlt shape_slices_Equal_int_int_0 hook_slices_Equal_int_int_0 rest) := by
  refine goodL_alt (fun l kn kx kr r h => ?_) h
  unfold hook_slices_Equal_int_int_0 at h
  split at h
  · rename_i r0_0 r0_1 i0_2 i0_3
    exact ⟨_, (loop_slices_Equal_int_int_0_eq r0_0 r0_1 i0_2 i0_3 kn kx kr _ i0_3).symm.trans h⟩
  · cases h
theorem good_slices_Equal_int_int_0 {R : Type} : GoodLoop (R := R) env_slices_Equal_int_int 0 (loopAt Tryz.f27 0) := goodL_loop (g := loopAlt shape_slices_Equal_int_int_0 hook_slices_Equal_int_int_0 loopNil) (fun _ _ _ _ => rfl) (goodl_slices_Equal_int_int_0 goodL_nil)
noncomputable def spec_slices_Equal_int_int {R : Type} (a0 a1 : Rows) (k : V → Option R) : Option R :=
 let x1 : Int := (((List.length a0) : Nat) : Int)
 let x2 : Int := (((List.length a1) : Nat) : Int)
 bif (x1 != x2) then
 k (V.bool false)
 else
 let x3 : Int := (((List.length a0) : Nat) : Int)
 loop_slices_Equal_int_int_0 a0 a1 x3 (fuel_slices_Equal_int_int_0 a0 a1 x3 (0 : Int)) (0 : Int) (fun i0_z9 =>
 k (V.bool true)) k
abbrev av_slices_Equal_int_int (a0 a1 : Rows) : List V := [(V.data Sbox_reader.sh a0), (V.data Sbox_reader.sh a1)]
theorem spec_slices_Equal_int_int_eq {R : Type} (a0 a1 : Rows) (k : V → Option R) : fnK env_slices_Equal_int_int Tryz.f27 (av_slices_Equal_int_int a0 a1) k = spec_slices_Equal_int_int a0 a1 k := by kernel_rfl
theorem ok_slices_Equal_int_int (a0 a1 : Rows) {v : V} (h : Real (av_slices_Equal_int_int a0 a1) → spec_slices_Equal_int_int a0 a1 some = some v) : FunOK Tryz.prog 27 (av_slices_Equal_int_int a0 a1) v :=
  fn_ok (fn := Tryz.f27) (c := bodyOf Tryz.f27) (E := env_slices_Equal_int_int) ⟨by kernel_rfl, goodNil, rfl, goodS_no⟩ rfl (by kernel_rfl) (by kernel_rfl) (by kernel_rfl)
  (loopsOK_of _ (by
    have e : loopsOf (bodyOf Tryz.f27) = [(0, loopAt Tryz.f27 0)] := by kernel_rfl
    rw [e]
    simp only [List.forall_mem_cons, List.not_mem_nil, false_implies, implies_true, and_true]
    exact good_slices_Equal_int_int_0))
  (fun hr => (spec_slices_Equal_int_int_eq a0 a1 some).trans (h hr))
theorem mk_slices_Equal_int_int (h : ∀ (a0 a1 : Rows), pre_slices_Equal_int_int a0 a1 = true → Real (av_slices_Equal_int_int a0 a1) → spec_slices_Equal_int_int a0 a1 some = some (V.bool (m_slices_Equal_int_int a0 a1))) : G_slices_Equal_int_int := goodHook1 fun l hp => by
  unfold hp_slices_Equal_int_int at hp
  split at hp
  · rename_i x0 x1
    exact ok_slices_Equal_int_int x0 x1 fun hr => h x0 x1 hp hr
  · cases hp
noncomputable def env_colorspec_Same_1 {R : Type} : Env R := ⟨Tryz.prog, callCons 27 c_slices_Equal_int_int callNil, fun _ _ _ _ _ => none, Tryz.f29.results.toList, maskTab 8 [(0, 0x3), (1, 0x10)], maskAt [(2, 1)], noSort⟩
noncomputable def spec_colorspec_Same_1 {R : Type} (a0 a1 : Rows) (k : V → Option R) : Option R :=
 bif (pre_slices_Equal_int_int a0 a1) then
 let c1 : Bool := (m_slices_Equal_int_int a0 a1)
 k (V.bool c1)
 else none
abbrev av_colorspec_Same_1 (a0 a1 : Rows) : List V := [(V.data Sbox_reader.sh a0), (V.data Sbox_reader.sh a1)]
theorem spec_colorspec_Same_1_eq {R : Type} (a0 a1 : Rows) (k : V → Option R) : fnK env_colorspec_Same_1 Tryz.f29 (av_colorspec_Same_1 a0 a1) k = spec_colorspec_Same_1 a0 a1 k := by kernel_rfl
theorem ok_colorspec_Same_1 (h_slices_Equal_int_int : G_slices_Equal_int_int) (a0 a1 : Rows) {v : V} (h : Real (av_colorspec_Same_1 a0 a1) → spec_colorspec_Same_1 a0 a1 some = some v) : FunOK Tryz.prog 29 (av_colorspec_Same_1 a0 a1) v :=
  fn_ok (fn := Tryz.f29) (c := bodyOf Tryz.f29) (E := env_colorspec_Same_1) ⟨by kernel_rfl, (goodCons h_slices_Equal_int_int goodNil), rfl, goodS_no⟩ rfl (by kernel_rfl) (by kernel_rfl) (by kernel_rfl)
  (loopsOK_of _ (by
    have e : loopsOf (bodyOf Tryz.f29) = [] := by kernel_rfl
    rw [e]
    intro p hp; cases hp))
  (fun hr => (spec_colorspec_Same_1_eq a0 a1 some).trans (h hr))
theorem mk_colorspec_Same_1 (h_slices_Equal_int_int : G_slices_Equal_int_int) (h : ∀ (a0 a1 : Rows), pre_colorspec_Same_1 a0 a1 = true → Real (av_colorspec_Same_1 a0 a1) → spec_colorspec_Same_1 a0 a1 some = some (V.bool (m_colorspec_Same_1 a0 a1))) : G_colorspec_Same_1 := goodHook1 fun l hp => by
  unfold hp_colorspec_Same_1 at hp
  split at hp
  · rename_i x0 x1
    exact ok_colorspec_Same_1 h_slices_Equal_int_int x0 x1 fun hr => h x0 x1 hp hr
  · cases hp
theorem au_colorspec_Same_1 (a0 a1 : Rows) : pre_colorspec_Same_1 a0 a1 = true → spec_colorspec_Same_1 a0 a1 some = some ((fun (m : Bool) => (V.bool m)) (m_colorspec_Same_1 a0 a1)) := by
  repeat' (first | exact fun _ => rfl | exact fun h => absurd h (by decide) | refine bif_p (v := (fun (m : Bool) => (V.bool m))) ?_ ?_)
theorem good_colorspec_Same_1_of (h_slices_Equal_int_int : G_slices_Equal_int_int) : G_colorspec_Same_1 := mk_colorspec_Same_1 h_slices_Equal_int_int (fun _ _ hp _ => au_colorspec_Same_1 _ _ hp)
noncomputable def fuel_slices_EqualFunc_int_int_int_int_0 (r0_0 r0_1 : Rows) (i0_2 i0_3 : Int) : Nat :=
 Int.toNat (i0_2 - i0_3) + 1
noncomputable def step_slices_EqualFunc_int_int_int_int_0 {R : Type} (r0_0 r0_1 : Rows) (i0_2 : Int) (i0_3 : Int) (again : Int → Option R) (kn : Int → Option R) (kr : V → Option R) : Option R :=
 bif (decide (i0_3 < i0_2)) then
 bif (inR i0_3 (List.length r0_1)) then
 let w4 : List V := (List.getD r0_1 (Int.toNat i0_3) [])
 let r5 : Rows := (V.toRows (List.getD w4 0 V.undef))
 bif (inR i0_3 (List.length r0_0)) then
 let w6 : List V := (List.getD r0_0 (Int.toNat i0_3) [])
 let r7 : Rows := (V.toRows (List.getD w6 0 V.undef))
 bif (pre_colorspec_Same_1 r5 r7) then
 let c8 : Bool := (m_colorspec_Same_1 r5 r7)
 bif (!c8) then
 kr (V.bool false)
 else
 let x9 : Int := (IntKind.wrap .i64 (i0_3 + (1 : Int)))
 again x9
 else none
 else none
 else none
 else
 kn i0_3
noncomputable def loop_slices_EqualFunc_int_int_int_int_0 {R : Type} (r0_0 r0_1 : Rows) (i0_2 : Int) : Nat → Int → (Int → Option R) → (V → Option R) → Option R
  | 0, _, _, _ => none
  | n + 1, i0_3, kn, kr => step_slices_EqualFunc_int_int_int_int_0 r0_0 r0_1 i0_2 i0_3 (fun yi0_3 => loop_slices_EqualFunc_int_int_int_int_0 r0_0 r0_1 i0_2 n yi0_3 kn kr) kn kr
noncomputable def shape_slices_EqualFunc_int_int_int_int_0 : ST := ⟨.undef :: .data [.sl Sbox_reader.sh] :: .fn 29 [] :: unds 12 (.data [.sl Sbox_reader.sh] :: .int .i64 :: .int .i64 :: unds 14 []), [], 10⟩
noncomputable def st_slices_EqualFunc_int_int_int_int_0 (r0_0 r0_1 : Rows) (i0_2 : Int) (i0_3 : Int) : St := shape_slices_EqualFunc_int_int_int_int_0.put [.r r0_0, .r r0_1, .i i0_2, .i i0_3]
noncomputable def hook_slices_EqualFunc_int_int_int_int_0 {R : Type} : LoopG R := fun l kn _ kr => match l with
  | .r r0_0 :: .r r0_1 :: .i i0_2 :: .i i0_3 :: [] => loop_slices_EqualFunc_int_int_int_int_0 r0_0 r0_1 i0_2 (fuel_slices_EqualFunc_int_int_int_int_0 r0_0 r0_1 i0_2 i0_3) i0_3 (fun yi0_3 => kn (st_slices_EqualFunc_int_int_int_int_0 r0_0 r0_1 i0_2 yi0_3)) kr
  | _ => none
noncomputable def env_slices_EqualFunc_int_int_int_int {R : Type} : Env R := ⟨Tryz.prog, callCons 29 c_colorspec_Same_1 callNil, fun id => bif Nat.beq id 0 then loopAlt shape_slices_EqualFunc_int_int_int_int_0 hook_slices_EqualFunc_int_int_int_int_0 loopNil else (fun _ _ _ _ _ => none) id, Tryz.f28.results.toList, maskTab 32 [(0, 0x7), (1, 0x4007), (2, 0x40), (3, 0x38006), (4, 0x78006), (5, 0x38186), (6, 0x38306), (7, 0x40038006), (8, 0x40), (9, 0x38006), (10, 0x40)], maskAt [(1, 10), (2, 1), (4, 6), (6, 7), (8, 14), (10, 15), (12, 20), (14, 25), (16, 30), (18, 31), (20, 33)], noSort⟩
theorem step_slices_EqualFunc_int_int_int_int_0_eq {R : Type} (r0_0 r0_1 : Rows) (i0_2 : Int) (si0_3 : Int) (kn : St → Option R) (kx : Nat → St → Option R) (kr : V → Option R) (n : Nat) (i0_3 : Int) :
    loopN env_slices_EqualFunc_int_int_int_int 0 (loopAt Tryz.f28 0) (st_slices_EqualFunc_int_int_int_int_0 r0_0 r0_1 i0_2 si0_3) kn kx kr (n + 1) (st_slices_EqualFunc_int_int_int_int_0 r0_0 r0_1 i0_2 i0_3) =
    step_slices_EqualFunc_int_int_int_int_0 r0_0 r0_1 i0_2 i0_3 (fun yi0_3 => loopN env_slices_EqualFunc_int_int_int_int 0 (loopAt Tryz.f28 0) (st_slices_EqualFunc_int_int_int_int_0 r0_0 r0_1 i0_2 si0_3) kn kx kr n (st_slices_EqualFunc_int_int_int_int_0 r0_0 r0_1 i0_2 yi0_3)) (fun yi0_3 => kn (st_slices_EqualFunc_int_int_int_int_0 r0_0 r0_1 i0_2 yi0_3)) kr := by kernel_rfl
theorem loop_slices_EqualFunc_int_int_int_int_0_eq {R : Type} (r0_0 r0_1 : Rows) (i0_2 : Int) (si0_3 : Int) (kn : St → Option R) (kx : Nat → St → Option R) (kr : V → Option R) : ∀ (n : Nat) (i0_3 : Int),
    loop_slices_EqualFunc_int_int_int_int_0 r0_0 r0_1 i0_2 n i0_3 (fun yi0_3 => kn (st_slices_EqualFunc_int_int_int_int_0 r0_0 r0_1 i0_2 yi0_3)) kr = loopN env_slices_EqualFunc_int_int_int_int 0 (loopAt Tryz.f28 0) (st_slices_EqualFunc_int_int_int_int_0 r0_0 r0_1 i0_2 si0_3) kn kx kr n (st_slices_EqualFunc_int_int_int_int_0 r0_0 r0_1 i0_2 i0_3)
  | 0, _ => rfl
  | n + 1, i0_3 => by
    rw [step_slices_EqualFunc_int_int_int_int_0_eq, loop_slices_EqualFunc_int_int_int_int_0]
    congr 1
    funext yi0_3
    exact loop_slices_EqualFunc_int_int_int_int_0_eq r0_0 r0_1 i0_2 si0_3 kn kx kr n yi0_3
theorem goodl_slices_EqualFunc_int_int_int_int_0 {R : Type} {rest} (h : GoodL (R := R) env_slices_EqualFunc_int_int_int_int 0 (loopAt Tryz.f28 0) rest) : GoodL (R := R) env_slices_EqualFunc_int_int_int_int 0 (loopAt Tryz.f28 0) (loopAlt shape_slices_EqualFunc_int_int_int_int_0 hook_slices_EqualFunc_int_int_int_int_0 rest) := by
  refine goodL_alt (fun l kn kx kr r h => ?_) h
  unfold hook_slices_EqualFunc_int_int_int_int_0 at h
  split at h
  · rename_i r0_0 r0_1 i0_2 i0_3
    exact ⟨_, (loop_slices_EqualFunc_int_int_int_int_0_eq r0_0 r0_1 i0_2 i0_3 kn kx kr _ i0_3).symm.trans h⟩
  · cases h
theorem good_slices_EqualFunc_int_int_int_int_0 {R : Type} : GoodLoop (R := R) env_slices_EqualFunc_int_int_int_int 0 (loopAt Tryz.f28 0) := goodL_loop (g := loopAlt shape_slices_EqualFunc_int_int_int_int_0 hook_slices_EqualFunc_int_int_int_int_0 loopNil) (fun _ _ _ _ => rfl) (goodl_slices_EqualFunc_int_int_int_int_0 goodL_nil)
noncomputable def spec_slices_EqualFunc_int_int_int_int {R : Type} (a0 a1 : Rows) (k : V → Option R) : Option R :=
 let x1 : Int := (((List.length a0) : Nat) : Int)
 let x2 : Int := (((List.length a1) : Nat) : Int)
 bif (x1 != x2) then
 k (V.bool false)
 else
 let x3 : Int := (((List.length a0) : Nat) : Int)
 loop_slices_EqualFunc_int_int_int_int_0 a1 a0 x3 (fuel_slices_EqualFunc_int_int_int_int_0 a1 a0 x3 (0 : Int)) (0 : Int) (fun i0_z10 =>
 k (V.bool true)) k
abbrev av_slices_EqualFunc_int_int_int_int (a0 a1 : Rows) : List V := [(V.data [.sl Sbox_reader.sh] a0), (V.data [.sl Sbox_reader.sh] a1), (V.fn 29 [])]
theorem spec_slices_EqualFunc_int_int_int_int_eq {R : Type} (a0 a1 : Rows) (k : V → Option R) : fnK env_slices_EqualFunc_int_int_int_int Tryz.f28 (av_slices_EqualFunc_int_int_int_int a0 a1) k = spec_slices_EqualFunc_int_int_int_int a0 a1 k := by kernel_rfl
theorem ok_slices_EqualFunc_int_int_int_int (h_colorspec_Same_1 : G_colorspec_Same_1) (a0 a1 : Rows) {v : V} (h : Real (av_slices_EqualFunc_int_int_int_int a0 a1) → spec_slices_EqualFunc_int_int_int_int a0 a1 some = some v) : FunOK Tryz.prog 28 (av_slices_EqualFunc_int_int_int_int a0 a1) v :=
  fn_ok (fn := Tryz.f28) (c := bodyOf Tryz.f28) (E := env_slices_EqualFunc_int_int_int_int) ⟨by kernel_rfl, (goodCons h_colorspec_Same_1 goodNil), rfl, goodS_no⟩ rfl (by kernel_rfl) (by kernel_rfl) (by kernel_rfl)
  (loopsOK_of _ (by
    have e : loopsOf (bodyOf Tryz.f28) = [(0, loopAt Tryz.f28 0)] := by kernel_rfl
    rw [e]
    simp only [List.forall_mem_cons, List.not_mem_nil, false_implies, implies_true, and_true]
    exact good_slices_EqualFunc_int_int_int_int_0))
  (fun hr => (spec_slices_EqualFunc_int_int_int_int_eq a0 a1 some).trans (h hr))
theorem mk_slices_EqualFunc_int_int_int_int (h_colorspec_Same_1 : G_colorspec_Same_1) (h : ∀ (a0 a1 : Rows), pre_slices_EqualFunc_int_int_int_int a0 a1 = true → Real (av_slices_EqualFunc_int_int_int_int a0 a1) → spec_slices_EqualFunc_int_int_int_int a0 a1 some = some (V.bool (m_slices_EqualFunc_int_int_int_int a0 a1))) : G_slices_EqualFunc_int_int_int_int := goodHook1 fun l hp => by
  unfold hp_slices_EqualFunc_int_int_int_int at hp
  split at hp
  · rename_i x0 x1
    exact ok_slices_EqualFunc_int_int_int_int h_colorspec_Same_1 x0 x1 fun hr => h x0 x1 hp hr
  · cases hp
noncomputable def env_colorspec_Same {R : Type} : Env R := ⟨Tryz.prog, callCons 27 c_slices_Equal_int_int (callCons 28 c_slices_EqualFunc_int_int_int_int callNil), fun _ _ _ _ _ => none, Tryz.f11.results.toList, maskTab 24 [(0, 0x7cf80c), (1, 0x10)], maskAt [(2, 3)], noSort⟩
noncomputable def spec_colorspec_Same {R : Type} (a0 a1 : SColor) (k : V → Option R) : Option R :=
 bif ((a0.Space == a1.Space) == true) then
 bif (pre_slices_Equal_int_int a0.Roles a1.Roles) then
 let c1 : Bool := (m_slices_Equal_int_int a0.Roles a1.Roles)
 bif (c1 == true) then
 bif (pre_slices_EqualFunc_int_int_int_int a0.Palette a1.Palette) then
 let c2 : Bool := (m_slices_EqualFunc_int_int_int_int a0.Palette a1.Palette)
 k (V.bool c2)
 else none
 else
 k (V.bool false)
 else none
 else
 k (V.bool false)
abbrev av_colorspec_Same (a0 a1 : SColor) : List V := [(SColor.v a0), (SColor.v a1)]
theorem spec_colorspec_Same_eq {R : Type} (a0 a1 : SColor) (k : V → Option R) : fnK env_colorspec_Same Tryz.f11 (av_colorspec_Same a0 a1) k = spec_colorspec_Same a0 a1 k := by kernel_rfl
theorem ok_colorspec_Same (h_slices_Equal_int_int : G_slices_Equal_int_int) (h_slices_EqualFunc_int_int_int_int : G_slices_EqualFunc_int_int_int_int) (a0 a1 : SColor) {v : V} (h : Real (av_colorspec_Same a0 a1) → spec_colorspec_Same a0 a1 some = some v) : FunOK Tryz.prog 11 (av_colorspec_Same a0 a1) v :=
  fn_ok (fn := Tryz.f11) (c := bodyOf Tryz.f11) (E := env_colorspec_Same) ⟨by kernel_rfl, (goodCons h_slices_Equal_int_int (goodCons h_slices_EqualFunc_int_int_int_int goodNil)), rfl, goodS_no⟩ rfl (by kernel_rfl) (by kernel_rfl) (by kernel_rfl)
  (loopsOK_of _ (by
    have e : loopsOf (bodyOf Tryz.f11) = [] := by kernel_rfl
    rw [e]
    intro p hp; cases hp))
  (fun hr => (spec_colorspec_Same_eq a0 a1 some).trans (h hr))
theorem mk_colorspec_Same (h_slices_Equal_int_int : G_slices_Equal_int_int) (h_slices_EqualFunc_int_int_int_int : G_slices_EqualFunc_int_int_int_int) (h : ∀ (a0 a1 : SColor), pre_colorspec_Same a0 a1 = true → Real (av_colorspec_Same a0 a1) → spec_colorspec_Same a0 a1 some = some (V.bool (m_colorspec_Same a0 a1))) : G_colorspec_Same := goodHook1 fun l hp => by
  unfold hp_colorspec_Same at hp
  split at hp
  · rename_i x0 x1 x2 x3 x4 x5
    exact ok_colorspec_Same h_slices_Equal_int_int h_slices_EqualFunc_int_int_int_int (SColor.mk x0 x1 x2) (SColor.mk x3 x4 x5) fun hr => h (SColor.mk x0 x1 x2) (SColor.mk x3 x4 x5) hp hr
  · cases hp
theorem au_colorspec_Same (a0 a1 : SColor) : pre_colorspec_Same a0 a1 = true → spec_colorspec_Same a0 a1 some = some ((fun (m : Bool) => (V.bool m)) (m_colorspec_Same a0 a1)) := by
  repeat' (first | exact fun _ => rfl | exact fun h => absurd h (by decide) | refine bif_p (v := (fun (m : Bool) => (V.bool m))) ?_ ?_)
theorem good_colorspec_Same_of (h_slices_Equal_int_int : G_slices_Equal_int_int) (h_slices_EqualFunc_int_int_int_int : G_slices_EqualFunc_int_int_int_int) : G_colorspec_Same := mk_colorspec_Same h_slices_Equal_int_int h_slices_EqualFunc_int_int_int_int (fun _ _ hp _ => au_colorspec_Same _ _ hp)
end Go.Vm
