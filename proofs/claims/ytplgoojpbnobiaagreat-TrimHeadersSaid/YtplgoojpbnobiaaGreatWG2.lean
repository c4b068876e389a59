import Derived.Test.YtplgoojpbnobiaaGreatWC
set_option linter.unusedVariables false
set_option linter.unusedSimpArgs false
set_option maxRecDepth 100000
noncomputable section
namespace Go.Vm
open Go.Proofs
noncomputable def env_slices_Clone_api_Component_api_Component {R : Type} : Env R := ⟨Tryz.prog, callNil, fun _ _ _ _ _ => none, Tryz.f44.results.toList, maskTab 8 [(0, 0x1), (1, 0x11), (2, 0x4), (3, 0x4)], maskAt [(2, 1), (4, 3), (6, 4)], noSort⟩
noncomputable def spec_slices_Clone_api_Component_api_Component {R : Type} (a0 : Rows) (k : V → Option R) : Option R :=
 match a0 with
 | [] => agree (k (V.data SComponent.sh [])) (bif (roomOK ((0 : Nat) + (List.length a0)) 32) then
 k (V.data SComponent.sh ([] ++ a0))
 else none)
 | _ :: _ => bif (roomOK ((0 : Nat) + (List.length a0)) 32) then
 k (V.data SComponent.sh ([] ++ a0))
 else none
abbrev av_slices_Clone_api_Component_api_Component (a0 : Rows) : List V := [(V.data SComponent.sh a0)]
theorem spec_slices_Clone_api_Component_api_Component_eq {R : Type} (a0 : Rows) (k : V → Option R) : fnK env_slices_Clone_api_Component_api_Component Tryz.f44 (av_slices_Clone_api_Component_api_Component a0) k = spec_slices_Clone_api_Component_api_Component a0 k := by cases a0 <;> kernel_rfl
theorem ok_slices_Clone_api_Component_api_Component (a0 : Rows) {v : V} (h : Real (av_slices_Clone_api_Component_api_Component a0) → spec_slices_Clone_api_Component_api_Component a0 some = some v) : FunOK Tryz.prog 44 (av_slices_Clone_api_Component_api_Component a0) v :=
  fn_ok (fn := Tryz.f44) (c := bodyOf Tryz.f44) (E := env_slices_Clone_api_Component_api_Component) ⟨by kernel_rfl, goodNil, rfl, goodS_no⟩ rfl (by kernel_rfl) (by kernel_rfl) (by kernel_rfl)
  (loopsOK_of _ (by
    have e : loopsOf (bodyOf Tryz.f44) = [] := by kernel_rfl
    rw [e]
    intro p hp; cases hp))
  (fun hr => (spec_slices_Clone_api_Component_api_Component_eq a0 some).trans (h hr))
theorem mk_slices_Clone_api_Component_api_Component (h : ∀ (a0 : Rows), pre_slices_Clone_api_Component_api_Component a0 = true → Real (av_slices_Clone_api_Component_api_Component a0) → spec_slices_Clone_api_Component_api_Component a0 some = some (V.data SComponent.sh (m_slices_Clone_api_Component_api_Component a0))) : G_slices_Clone_api_Component_api_Component := goodHook1 fun l hp => by
  unfold hp_slices_Clone_api_Component_api_Component at hp
  split at hp
  · rename_i x0
    exact ok_slices_Clone_api_Component_api_Component x0 fun hr => h x0 hp hr
  · cases hp
noncomputable def env_slices_Clone_api_Point_api_Point {R : Type} : Env R := ⟨Tryz.prog, callNil, fun _ _ _ _ _ => none, Tryz.f45.results.toList, maskTab 8 [(0, 0x1), (1, 0x11), (2, 0x4), (3, 0x4)], maskAt [(2, 1), (4, 3), (6, 4)], noSort⟩
noncomputable def spec_slices_Clone_api_Point_api_Point {R : Type} (a0 : Rows) (k : V → Option R) : Option R :=
 match a0 with
 | [] => agree (k (V.data SPoint.sh [])) (bif (roomOK ((0 : Nat) + (List.length a0)) 16) then
 k (V.data SPoint.sh ([] ++ a0))
 else none)
 | _ :: _ => bif (roomOK ((0 : Nat) + (List.length a0)) 16) then
 k (V.data SPoint.sh ([] ++ a0))
 else none
abbrev av_slices_Clone_api_Point_api_Point (a0 : Rows) : List V := [(V.data SPoint.sh a0)]
theorem spec_slices_Clone_api_Point_api_Point_eq {R : Type} (a0 : Rows) (k : V → Option R) : fnK env_slices_Clone_api_Point_api_Point Tryz.f45 (av_slices_Clone_api_Point_api_Point a0) k = spec_slices_Clone_api_Point_api_Point a0 k := by cases a0 <;> kernel_rfl
theorem ok_slices_Clone_api_Point_api_Point (a0 : Rows) {v : V} (h : Real (av_slices_Clone_api_Point_api_Point a0) → spec_slices_Clone_api_Point_api_Point a0 some = some v) : FunOK Tryz.prog 45 (av_slices_Clone_api_Point_api_Point a0) v :=
  fn_ok (fn := Tryz.f45) (c := bodyOf Tryz.f45) (E := env_slices_Clone_api_Point_api_Point) ⟨by kernel_rfl, goodNil, rfl, goodS_no⟩ rfl (by kernel_rfl) (by kernel_rfl) (by kernel_rfl)
  (loopsOK_of _ (by
    have e : loopsOf (bodyOf Tryz.f45) = [] := by kernel_rfl
    rw [e]
    intro p hp; cases hp))
  (fun hr => (spec_slices_Clone_api_Point_api_Point_eq a0 some).trans (h hr))
theorem mk_slices_Clone_api_Point_api_Point (h : ∀ (a0 : Rows), pre_slices_Clone_api_Point_api_Point a0 = true → Real (av_slices_Clone_api_Point_api_Point a0) → spec_slices_Clone_api_Point_api_Point a0 some = some (V.data SPoint.sh (m_slices_Clone_api_Point_api_Point a0))) : G_slices_Clone_api_Point_api_Point := goodHook1 fun l hp => by
  unfold hp_slices_Clone_api_Point_api_Point at hp
  split at hp
  · rename_i x0
    exact ok_slices_Clone_api_Point_api_Point x0 fun hr => h x0 hp hr
  · cases hp
noncomputable def env_slices_Clone_int_int {R : Type} : Env R := ⟨Tryz.prog, callNil, fun _ _ _ _ _ => none, Tryz.f46.results.toList, maskTab 8 [(0, 0x1), (1, 0x11), (2, 0x4), (3, 0x4)], maskAt [(2, 1), (4, 3), (6, 4)], noSort⟩
noncomputable def spec_slices_Clone_int_int {R : Type} (a0 : Rows) (k : V → Option R) : Option R :=
 match a0 with
 | [] => agree (k (V.data Sheadseg_failure.sh [])) (bif (roomOK ((0 : Nat) + (List.length a0)) 8) then
 k (V.data Sheadseg_failure.sh ([] ++ a0))
 else none)
 | _ :: _ => bif (roomOK ((0 : Nat) + (List.length a0)) 8) then
 k (V.data Sheadseg_failure.sh ([] ++ a0))
 else none
abbrev av_slices_Clone_int_int (a0 : Rows) : List V := [(V.data Sheadseg_failure.sh a0)]
theorem spec_slices_Clone_int_int_eq {R : Type} (a0 : Rows) (k : V → Option R) : fnK env_slices_Clone_int_int Tryz.f46 (av_slices_Clone_int_int a0) k = spec_slices_Clone_int_int a0 k := by cases a0 <;> kernel_rfl
theorem ok_slices_Clone_int_int (a0 : Rows) {v : V} (h : Real (av_slices_Clone_int_int a0) → spec_slices_Clone_int_int a0 some = some v) : FunOK Tryz.prog 46 (av_slices_Clone_int_int a0) v :=
  fn_ok (fn := Tryz.f46) (c := bodyOf Tryz.f46) (E := env_slices_Clone_int_int) ⟨by kernel_rfl, goodNil, rfl, goodS_no⟩ rfl (by kernel_rfl) (by kernel_rfl) (by kernel_rfl)
  (loopsOK_of _ (by
    have e : loopsOf (bodyOf Tryz.f46) = [] := by kernel_rfl
    rw [e]
    intro p hp; cases hp))
  (fun hr => (spec_slices_Clone_int_int_eq a0 some).trans (h hr))
theorem mk_slices_Clone_int_int (h : ∀ (a0 : Rows), pre_slices_Clone_int_int a0 = true → Real (av_slices_Clone_int_int a0) → spec_slices_Clone_int_int a0 some = some (V.data Sheadseg_failure.sh (m_slices_Clone_int_int a0))) : G_slices_Clone_int_int := goodHook1 fun l hp => by
  unfold hp_slices_Clone_int_int at hp
  split at hp
  · rename_i x0
    exact ok_slices_Clone_int_int x0 fun hr => h x0 hp hr
  · cases hp
noncomputable def env_params_Clone {R : Type} : Env R := ⟨Tryz.prog, callCons 44 c_slices_Clone_api_Component_api_Component (callCons 45 c_slices_Clone_api_Point_api_Point (callCons 46 c_slices_Clone_int_int callNil)), fun _ _ _ _ _ => none, Tryz.f15.results.toList, maskTab 20 [(0, 0x3c), (1, 0x3c), (2, 0x3c), (3, 0x3c), (4, 0x30)], maskAt [(2, 4), (4, 9), (6, 14), (8, 19)], noSort⟩
noncomputable def spec_params_Clone {R : Type} (a0 : SHeader) (a1 : SParams) (k : V → Option R) : Option R :=
 bif (pre_slices_Clone_api_Component_api_Component a0.Components) then
 let c1 : Rows := (m_slices_Clone_api_Component_api_Component a0.Components)
 bif (pre_slices_Clone_api_Point_api_Point a1.Precincts) then
 let c2 : Rows := (m_slices_Clone_api_Point_api_Point a1.Precincts)
 bif (pre_slices_Clone_int_int a1.Steps) then
 let c3 : Rows := (m_slices_Clone_int_int a1.Steps)
 k (V.tup [(V.agg [(V.int .i64 a0.Area.X0), (V.int .i64 a0.Area.Y0), (V.int .i64 a0.Area.X1), (V.int .i64 a0.Area.Y1), (V.int .i64 a0.TileW), (V.int .i64 a0.TileH), (V.data SComponent.sh c1)]), (V.agg [(V.int .i64 a1.Kernel), (V.int .i64 a1.Levels), (V.int .i64 a1.Color), (V.int .i64 a1.BlockX), (V.int .i64 a1.BlockY), (V.data SPoint.sh c2), (V.int .i64 a1.Order), (V.int .i64 a1.Layers), (V.bool a1.Mode.Bypass), (V.bool a1.Mode.Restart), (V.bool a1.Mode.Reset), (V.bool a1.Mode.Causal), (V.bool a1.Mode.Symbols), (V.bool a1.Divide), (V.bool a1.Sync), (V.bool a1.Fence), (V.data Sheadseg_failure.sh c3), (V.int .i64 a1.Dead), (V.int .i64 a1.Shift)])])
 else none
 else none
 else none
abbrev av_params_Clone (a0 : SHeader) (a1 : SParams) : List V := [(SHeader.v a0), (SParams.v a1)]
theorem spec_params_Clone_eq {R : Type} (a0 : SHeader) (a1 : SParams) (k : V → Option R) : fnK env_params_Clone Tryz.f15 (av_params_Clone a0 a1) k = spec_params_Clone a0 a1 k := by kernel_rfl
theorem ok_params_Clone (h_slices_Clone_api_Component_api_Component : G_slices_Clone_api_Component_api_Component) (h_slices_Clone_api_Point_api_Point : G_slices_Clone_api_Point_api_Point) (h_slices_Clone_int_int : G_slices_Clone_int_int) (a0 : SHeader) (a1 : SParams) {v : V} (h : Real (av_params_Clone a0 a1) → spec_params_Clone a0 a1 some = some v) : FunOK Tryz.prog 15 (av_params_Clone a0 a1) v :=
  fn_ok (fn := Tryz.f15) (c := bodyOf Tryz.f15) (E := env_params_Clone) ⟨by kernel_rfl, (goodCons h_slices_Clone_api_Component_api_Component (goodCons h_slices_Clone_api_Point_api_Point (goodCons h_slices_Clone_int_int goodNil))), rfl, goodS_no⟩ rfl (by kernel_rfl) (by kernel_rfl) (by kernel_rfl)
  (loopsOK_of _ (by
    have e : loopsOf (bodyOf Tryz.f15) = [] := by kernel_rfl
    rw [e]
    intro p hp; cases hp))
  (fun hr => (spec_params_Clone_eq a0 a1 some).trans (h hr))
theorem mk_params_Clone (h_slices_Clone_api_Component_api_Component : G_slices_Clone_api_Component_api_Component) (h_slices_Clone_api_Point_api_Point : G_slices_Clone_api_Point_api_Point) (h_slices_Clone_int_int : G_slices_Clone_int_int) (h : ∀ (a0 : SHeader) (a1 : SParams), pre_params_Clone a0 a1 = true → Real (av_params_Clone a0 a1) → spec_params_Clone a0 a1 some = some (V.tup [(SHeader.v (m_params_Clone a0 a1).1), (SParams.v (m_params_Clone a0 a1).2)])) : G_params_Clone := goodHook1 fun l hp => by
  unfold hp_params_Clone at hp
  split at hp
  · rename_i x0 x1 x2 x3 x4 x5 x6 x7 x8 x9 x10 x11 x12 x13 x14 x15 x16 x17 x18 x19 x20 x21 x22 x23 x24 x25
    exact ok_params_Clone h_slices_Clone_api_Component_api_Component h_slices_Clone_api_Point_api_Point h_slices_Clone_int_int (SHeader.mk (SRect.mk x0 x1 x2 x3) x4 x5 x6) (SParams.mk x7 x8 x9 x10 x11 x12 x13 x14 (SMode.mk x15 x16 x17 x18 x19) x20 x21 x22 x23 x24 x25) fun hr => h (SHeader.mk (SRect.mk x0 x1 x2 x3) x4 x5 x6) (SParams.mk x7 x8 x9 x10 x11 x12 x13 x14 (SMode.mk x15 x16 x17 x18 x19) x20 x21 x22 x23 x24 x25) hp hr
  · cases hp
theorem au_params_Clone (a0 : SHeader) (a1 : SParams) : pre_params_Clone a0 a1 = true → spec_params_Clone a0 a1 some = some ((fun (m : SHeader × SParams) => (V.tup [(SHeader.v m.1), (SParams.v m.2)])) (m_params_Clone a0 a1)) := by
  repeat' (first | exact fun _ => rfl | exact fun h => absurd h (by decide) | refine bif_p (v := (fun (m : SHeader × SParams) => (V.tup [(SHeader.v m.1), (SParams.v m.2)]))) ?_ ?_)
theorem good_params_Clone_of (h_slices_Clone_api_Component_api_Component : G_slices_Clone_api_Component_api_Component) (h_slices_Clone_api_Point_api_Point : G_slices_Clone_api_Point_api_Point) (h_slices_Clone_int_int : G_slices_Clone_int_int) : G_params_Clone := mk_params_Clone h_slices_Clone_api_Component_api_Component h_slices_Clone_api_Point_api_Point h_slices_Clone_int_int (fun _ _ hp _ => au_params_Clone _ _ hp)
noncomputable def env_trim_Header {R : Type} : Env R := ⟨Tryz.prog, callCons 14 c_params_Header (callCons 15 c_params_Clone (callCons 16 c_rect_Reduce callNil)), fun _ _ _ _ _ => none, Tryz.f6.results.toList, maskTab 68 [(0, 0x1f00300016), (1, 0x1f00300056), (2, 0x1f00304056), (3, 0x30), (4, 0x1f00400016), (5, 0x30), (6, 0x1f00000094), (7, 0x2000000094), (8, 0x30), (9, 0x194), (10, 0x194), (11, 0x110), (12, 0x510), (13, 0x10000000000000510), (14, 0x30), (15, 0x30)], maskAt [(2, 3), (4, 6), (6, 8), (8, 12), (10, 18), (12, 21), (14, 24), (16, 36), (18, 39), (20, 49), (22, 56), (24, 68), (26, 71), (28, 73), (30, 77)], noSort⟩
noncomputable def spec_trim_Header {R : Type} (a0 : SHeader) (a1 : Int) (k : V → Option R) : Option R :=
 let c1 : Int := (m_params_Header a0)
 bif (c1 != (0 : Int)) then
 k (V.tup [(V.agg [(V.int .i64 (0 : Int)), (V.int .i64 (0 : Int)), (V.int .i64 (0 : Int)), (V.int .i64 (0 : Int)), (V.int .i64 (0 : Int)), (V.int .i64 (0 : Int)), (V.data SComponent.sh [])]), (V.int .i64 c1)])
 else
 let b2 : Bool := (decide (a1 < (0 : Int)))
 let b3 : Bool := (decide (a1 > (5 : Int)))
 let b4 : Bool := (bif b2 then true else b3)
 bif b4 then
 k (V.tup [(V.agg [(V.int .i64 (0 : Int)), (V.int .i64 (0 : Int)), (V.int .i64 (0 : Int)), (V.int .i64 (0 : Int)), (V.int .i64 (0 : Int)), (V.int .i64 (0 : Int)), (V.data SComponent.sh [])]), (V.int .i64 (2 : Int))])
 else
 bif (decide ((0 : Int) ≤ a1)) then
 let x5 : Int := (IntKind.wrap .i64 ((1 : Int) * 2 ^ (min (Int.toNat a1) 64)))
 bif (x5 != 0) then
 let b6 : Bool := ((Int.tmod a0.TileW x5) != (0 : Int))
 bif ((x5 != 0) || !(b6 == false)) then
 let b7 : Bool := ((Int.tmod a0.TileH x5) != (0 : Int))
 let b8 : Bool := (bif b6 then true else b7)
 bif b8 then
 k (V.tup [(V.agg [(V.int .i64 (0 : Int)), (V.int .i64 (0 : Int)), (V.int .i64 (0 : Int)), (V.int .i64 (0 : Int)), (V.int .i64 (0 : Int)), (V.int .i64 (0 : Int)), (V.data SComponent.sh [])]), (V.int .i64 (13 : Int))])
 else
 bif (pre_params_Clone a0 (SParams.mk (0 : Int) (0 : Int) (0 : Int) (0 : Int) (0 : Int) [] (0 : Int) (0 : Int) (SMode.mk false false false false false) false false false [] (0 : Int) (0 : Int))) then
 let c9 : SHeader × SParams := (m_params_Clone a0 (SParams.mk (0 : Int) (0 : Int) (0 : Int) (0 : Int) (0 : Int) [] (0 : Int) (0 : Int) (SMode.mk false false false false false) false false false [] (0 : Int) (0 : Int)))
 let c10 : SRect := (m_rect_Reduce a0.Area x5 x5)
 bif (x5 != 0) then
 let x11 : Int := (IntKind.wrap .i64 (Int.tdiv a0.TileW x5))
 bif (x5 != 0) then
 let x12 : Int := (IntKind.wrap .i64 (Int.tdiv a0.TileH x5))
 let c13 : Int := (m_params_Header (SHeader.mk c10 x11 x12 c9.1.Components))
 bif (c13 != (0 : Int)) then
 k (V.tup [(V.agg [(V.int .i64 (0 : Int)), (V.int .i64 (0 : Int)), (V.int .i64 (0 : Int)), (V.int .i64 (0 : Int)), (V.int .i64 (0 : Int)), (V.int .i64 (0 : Int)), (V.data SComponent.sh [])]), (V.int .i64 c13)])
 else
 k (V.tup [(V.agg [(V.int .i64 c10.X0), (V.int .i64 c10.Y0), (V.int .i64 c10.X1), (V.int .i64 c10.Y1), (V.int .i64 x11), (V.int .i64 x12), (V.data SComponent.sh c9.1.Components)]), (V.int .i64 (0 : Int))])
 else none
 else none
 else none
 else none
 else none
 else none
abbrev av_trim_Header (a0 : SHeader) (a1 : Int) : List V := [(SHeader.v a0), (V.int .i64 a1)]
theorem spec_trim_Header_eq {R : Type} (a0 : SHeader) (a1 : Int) (k : V → Option R) : fnK env_trim_Header Tryz.f6 (av_trim_Header a0 a1) k = spec_trim_Header a0 a1 k := by kernel_rfl
theorem ok_trim_Header (h_params_Header : G_params_Header) (h_params_Clone : G_params_Clone) (h_rect_Reduce : G_rect_Reduce) (a0 : SHeader) (a1 : Int) {v : V} (h : Real (av_trim_Header a0 a1) → spec_trim_Header a0 a1 some = some v) : FunOK Tryz.prog 6 (av_trim_Header a0 a1) v :=
  fn_ok (fn := Tryz.f6) (c := bodyOf Tryz.f6) (E := env_trim_Header) ⟨by kernel_rfl, (goodCons h_params_Header (goodCons h_params_Clone (goodCons h_rect_Reduce goodNil))), rfl, goodS_no⟩ rfl (by kernel_rfl) (by kernel_rfl) (by kernel_rfl)
  (loopsOK_of _ (by
    have e : loopsOf (bodyOf Tryz.f6) = [] := by kernel_rfl
    rw [e]
    intro p hp; cases hp))
  (fun hr => (spec_trim_Header_eq a0 a1 some).trans (h hr))
theorem mk_trim_Header (h_params_Header : G_params_Header) (h_params_Clone : G_params_Clone) (h_rect_Reduce : G_rect_Reduce) (h : ∀ (a0 : SHeader) (a1 : Int), pre_trim_Header a0 a1 = true → Real (av_trim_Header a0 a1) → spec_trim_Header a0 a1 some = some (V.tup [(SHeader.v (m_trim_Header a0 a1).1), (V.int .i64 (m_trim_Header a0 a1).2)])) : G_trim_Header := goodHook1 fun l hp => by
  unfold hp_trim_Header at hp
  split at hp
  · rename_i x0 x1 x2 x3 x4 x5 x6 x7
    exact ok_trim_Header h_params_Header h_params_Clone h_rect_Reduce (SHeader.mk (SRect.mk x0 x1 x2 x3) x4 x5 x6) x7 fun hr => h (SHeader.mk (SRect.mk x0 x1 x2 x3) x4 x5 x6) x7 hp hr
  · cases hp
theorem au_trim_Header (a0 : SHeader) (a1 : Int) : pre_trim_Header a0 a1 = true → spec_trim_Header a0 a1 some = some ((fun (m : SHeader × Int) => (V.tup [(SHeader.v m.1), (V.int .i64 m.2)])) (m_trim_Header a0 a1)) := by
  repeat' (first | exact fun _ => rfl | exact fun h => absurd h (by decide) | refine bif_p (v := (fun (m : SHeader × Int) => (V.tup [(SHeader.v m.1), (V.int .i64 m.2)]))) ?_ ?_)
theorem good_trim_Header_of (h_params_Header : G_params_Header) (h_params_Clone : G_params_Clone) (h_rect_Reduce : G_rect_Reduce) : G_trim_Header := mk_trim_Header h_params_Header h_params_Clone h_rect_Reduce (fun _ _ hp _ => au_trim_Header _ _ hp)
noncomputable def env_L43_exampleHolds {R : Type} : Env R := ⟨Tryz.prog, callCons 6 c_trim_Header (callCons 12 c_trim_Layers (callCons 13 c_trim_Components callNil)), fun _ _ _ _ _ => none, Tryz.f5.results.toList, maskTab 80 [(0, 0x666679ce780000000000), (1, 0x666679ce780000000002), (2, 0x666679ce78000000000e), (3, 0x666679ce78000000002e), (4, 0x666679ce7800000000ac), (5, 0x666679ce7800000002ac), (6, 0x666679ce780000000aac), (7, 0x1)], maskAt [(2, 1), (4, 7), (6, 15), (8, 23), (10, 31), (12, 38), (14, 44)], noSort⟩
noncomputable def spec_L43_exampleHolds {R : Type} (k : V → Option R) : Option R :=
 bif (pre_trim_Header (SHeader.mk (SRect.mk (0 : Int) (0 : Int) (7 : Int) (5 : Int)) (4 : Int) (4 : Int) [[(V.int .i64 (8 : Int)), (V.bool false), (V.int .i64 (1 : Int)), (V.int .i64 (1 : Int))]]) (1 : Int)) then
 let c1 : SHeader × Int := (m_trim_Header (SHeader.mk (SRect.mk (0 : Int) (0 : Int) (7 : Int) (5 : Int)) (4 : Int) (4 : Int) [[(V.int .i64 (8 : Int)), (V.bool false), (V.int .i64 (1 : Int)), (V.int .i64 (1 : Int))]]) (1 : Int))
 bif (pre_trim_Header (SHeader.mk (SRect.mk (0 : Int) (0 : Int) (7 : Int) (5 : Int)) (4 : Int) (4 : Int) [[(V.int .i64 (8 : Int)), (V.bool false), (V.int .i64 (1 : Int)), (V.int .i64 (1 : Int))]]) (3 : Int)) then
 let c2 : SHeader × Int := (m_trim_Header (SHeader.mk (SRect.mk (0 : Int) (0 : Int) (7 : Int) (5 : Int)) (4 : Int) (4 : Int) [[(V.int .i64 (8 : Int)), (V.bool false), (V.int .i64 (1 : Int)), (V.int .i64 (1 : Int))]]) (3 : Int))
 bif (pre_trim_Header (SHeader.mk (SRect.mk (0 : Int) (0 : Int) (7 : Int) (5 : Int)) (4 : Int) (4 : Int) [[(V.int .i64 (8 : Int)), (V.bool false), (V.int .i64 (1 : Int)), (V.int .i64 (1 : Int))]]) (6 : Int)) then
 let c3 : SHeader × Int := (m_trim_Header (SHeader.mk (SRect.mk (0 : Int) (0 : Int) (7 : Int) (5 : Int)) (4 : Int) (4 : Int) [[(V.int .i64 (8 : Int)), (V.bool false), (V.int .i64 (1 : Int)), (V.int .i64 (1 : Int))]]) (6 : Int))
 bif (pre_trim_Layers [[(V.int .u8 (1 : Int))], [(V.int .u8 (2 : Int))]] (0 : Int)) then
 let c4 : Rows × Int := (m_trim_Layers [[(V.int .u8 (1 : Int))], [(V.int .u8 (2 : Int))]] (0 : Int))
 bif (pre_trim_Components [] []) then
 let c5 : Rows × Int := (m_trim_Components [] [])
 let b6 : Bool := ((c1.1.Area.X0 == (0 : Int)) && ((c1.1.Area.Y0 == (0 : Int)) && ((c1.1.Area.X1 == (4 : Int)) && ((c1.1.Area.Y1 == (3 : Int)) && true))))
 let b7 : Bool := (bif (c1.2 == (0 : Int)) then b6 else false)
 let b8 : Bool := (c1.1.TileW == (2 : Int))
 let b9 : Bool := (bif b7 then b8 else false)
 let b10 : Bool := (c1.1.TileH == (2 : Int))
 let b11 : Bool := (bif b9 then b10 else false)
 bif (b11 == true) then
 let x12 : Int := (((List.length c1.1.Components) : Nat) : Int)
 let b13 : Bool := (bif (x12 == (1 : Int)) then (c2.2 == (13 : Int)) else false)
 let b14 : Bool := (bif b13 then (c3.2 == (2 : Int)) else false)
 let b15 : Bool := (bif b14 then (c4.2 == (10 : Int)) else false)
 let b16 : Bool := (bif b15 then (c5.2 == (10 : Int)) else false)
 k (V.bool b16)
 else
 k (V.bool false)
 else none
 else none
 else none
 else none
 else none
abbrev av_L43_exampleHolds : List V := []
theorem spec_L43_exampleHolds_eq {R : Type} (k : V → Option R) : fnK env_L43_exampleHolds Tryz.f5 (av_L43_exampleHolds) k = spec_L43_exampleHolds k := by kernel_rfl
theorem ok_L43_exampleHolds (h_trim_Header : G_trim_Header) (h_trim_Layers : G_trim_Layers) (h_trim_Components : G_trim_Components) {v : V} (h : Real (av_L43_exampleHolds) → spec_L43_exampleHolds some = some v) : FunOK Tryz.prog 5 (av_L43_exampleHolds) v :=
  fn_ok (fn := Tryz.f5) (c := bodyOf Tryz.f5) (E := env_L43_exampleHolds) ⟨by kernel_rfl, (goodCons h_trim_Header (goodCons h_trim_Layers (goodCons h_trim_Components goodNil))), rfl, goodS_no⟩ rfl (by kernel_rfl) (by kernel_rfl) (by kernel_rfl)
  (loopsOK_of _ (by
    have e : loopsOf (bodyOf Tryz.f5) = [] := by kernel_rfl
    rw [e]
    intro p hp; cases hp))
  (fun hr => (spec_L43_exampleHolds_eq some).trans (h hr))
theorem mk_L43_exampleHolds (h_trim_Header : G_trim_Header) (h_trim_Layers : G_trim_Layers) (h_trim_Components : G_trim_Components) (h : Real (av_L43_exampleHolds) → spec_L43_exampleHolds some = some (V.bool m_L43_exampleHolds)) : G_L43_exampleHolds := goodHook1 fun l hp => by
  unfold hp_L43_exampleHolds at hp
  split at hp
  · skip
    exact ok_L43_exampleHolds h_trim_Header h_trim_Layers h_trim_Components fun hr => h hr
  · cases hp
noncomputable def fuel_R43_scale_0 (i0_0 i0_1 i0_2 : Int) : Nat :=
 Int.toNat (i0_0 - i0_2) + 1
noncomputable def step_R43_scale_0 {R : Type} (i0_0 : Int) (i0_1 i0_2 : Int) (again : Int → Int → Option R) (kn : Int → Int → Option R) : Option R :=
 bif (decide (i0_2 < i0_0)) then
 let x1 : Int := (IntKind.wrap .i64 ((2 : Int) * i0_1))
 let x2 : Int := (IntKind.wrap .i64 (i0_2 + (1 : Int)))
 again x1 x2
 else
 kn i0_1 i0_2
noncomputable def loop_R43_scale_0 {R : Type} (i0_0 : Int) : Nat → Int → Int → (Int → Int → Option R) → Option R
  | 0, _, _, _ => none
  | n + 1, i0_1, i0_2, kn => step_R43_scale_0 i0_0 i0_1 i0_2 (fun yi0_1 yi0_2 => loop_R43_scale_0 i0_0 n yi0_1 yi0_2 kn) kn
noncomputable def shape_R43_scale_0 : ST := ⟨.int .i64 :: .undef :: .undef :: .int .i64 :: .int .i64 :: unds 8 [], [], 3⟩
noncomputable def st_R43_scale_0 (i0_0 : Int) (i0_1 i0_2 : Int) : St := shape_R43_scale_0.put [.i i0_0, .i i0_1, .i i0_2]
noncomputable def hook_R43_scale_0 {R : Type} : LoopG R := fun l kn _ _ => match l with
  | .i i0_0 :: .i i0_1 :: .i i0_2 :: [] => loop_R43_scale_0 i0_0 (fuel_R43_scale_0 i0_0 i0_1 i0_2) i0_1 i0_2 (fun yi0_1 yi0_2 => kn (st_R43_scale_0 i0_0 yi0_1 yi0_2))
  | _ => none
noncomputable def env_R43_scale {R : Type} : Env R := ⟨Tryz.prog, callNil, fun id => bif Nat.beq id 0 then loopAlt shape_R43_scale_0 hook_R43_scale_0 loopNil else (fun _ _ _ _ _ => none) id, Tryz.f18.results.toList, maskTab 13 [(0, 0x1), (1, 0x9), (2, 0x19), (3, 0x99), (4, 0x19), (5, 0x19), (6, 0x4)], maskAt [(1, 3), (2, 1), (4, 2), (6, 7), (8, 13), (10, 10), (12, 16)], noSort⟩
theorem step_R43_scale_0_eq {R : Type} (i0_0 : Int) (si0_1 si0_2 : Int) (kn : St → Option R) (kx : Nat → St → Option R) (kr : V → Option R) (n : Nat) (i0_1 i0_2 : Int) :
    loopN env_R43_scale 0 (loopAt Tryz.f18 0) (st_R43_scale_0 i0_0 si0_1 si0_2) kn kx kr (n + 1) (st_R43_scale_0 i0_0 i0_1 i0_2) =
    step_R43_scale_0 i0_0 i0_1 i0_2 (fun yi0_1 yi0_2 => loopN env_R43_scale 0 (loopAt Tryz.f18 0) (st_R43_scale_0 i0_0 si0_1 si0_2) kn kx kr n (st_R43_scale_0 i0_0 yi0_1 yi0_2)) (fun yi0_1 yi0_2 => kn (st_R43_scale_0 i0_0 yi0_1 yi0_2)) := by kernel_rfl
theorem loop_R43_scale_0_eq {R : Type} (i0_0 : Int) (si0_1 si0_2 : Int) (kn : St → Option R) (kx : Nat → St → Option R) (kr : V → Option R) : ∀ (n : Nat) (i0_1 i0_2 : Int),
    loop_R43_scale_0 i0_0 n i0_1 i0_2 (fun yi0_1 yi0_2 => kn (st_R43_scale_0 i0_0 yi0_1 yi0_2)) = loopN env_R43_scale 0 (loopAt Tryz.f18 0) (st_R43_scale_0 i0_0 si0_1 si0_2) kn kx kr n (st_R43_scale_0 i0_0 i0_1 i0_2)
  | 0, _, _ => rfl
  | n + 1, i0_1, i0_2 => by
    rw [step_R43_scale_0_eq, loop_R43_scale_0]
    congr 1
    funext yi0_1 yi0_2
    exact loop_R43_scale_0_eq i0_0 si0_1 si0_2 kn kx kr n yi0_1 yi0_2
theorem goodl_R43_scale_0 {R : Type} {rest} (h : GoodL (R := R) env_R43_scale 0 (loopAt Tryz.f18 0) rest) : GoodL (R := R) env_R43_scale 0 (loopAt Tryz.f18 0) (loopAlt shape_R43_scale_0 hook_R43_scale_0 rest) := by
  refine goodL_alt (fun l kn kx kr r h => ?_) h
  unfold hook_R43_scale_0 at h
  split at h
  · rename_i i0_0 i0_1 i0_2
    exact ⟨_, (loop_R43_scale_0_eq i0_0 i0_1 i0_2 kn kx kr _ i0_1 i0_2).symm.trans h⟩
  · cases h
theorem good_R43_scale_0 {R : Type} : GoodLoop (R := R) env_R43_scale 0 (loopAt Tryz.f18 0) := goodL_loop (g := loopAlt shape_R43_scale_0 hook_R43_scale_0 loopNil) (fun _ _ _ _ => rfl) (goodl_R43_scale_0 goodL_nil)
noncomputable def spec_R43_scale {R : Type} (a0 : Int) (k : V → Option R) : Option R :=
 loop_R43_scale_0 a0 (fuel_R43_scale_0 a0 (1 : Int) (0 : Int)) (1 : Int) (0 : Int) (fun i0_z3 i0_z4 =>
 k (V.int .i64 i0_z3))
abbrev av_R43_scale (a0 : Int) : List V := [(V.int .i64 a0)]
theorem spec_R43_scale_eq {R : Type} (a0 : Int) (k : V → Option R) : fnK env_R43_scale Tryz.f18 (av_R43_scale a0) k = spec_R43_scale a0 k := by kernel_rfl
theorem ok_R43_scale (a0 : Int) {v : V} (h : Real (av_R43_scale a0) → spec_R43_scale a0 some = some v) : FunOK Tryz.prog 18 (av_R43_scale a0) v :=
  fn_ok (fn := Tryz.f18) (c := bodyOf Tryz.f18) (E := env_R43_scale) ⟨by kernel_rfl, goodNil, rfl, goodS_no⟩ rfl (by kernel_rfl) (by kernel_rfl) (by kernel_rfl)
  (loopsOK_of _ (by
    have e : loopsOf (bodyOf Tryz.f18) = [(0, loopAt Tryz.f18 0)] := by kernel_rfl
    rw [e]
    simp only [List.forall_mem_cons, List.not_mem_nil, false_implies, implies_true, and_true]
    exact good_R43_scale_0))
  (fun hr => (spec_R43_scale_eq a0 some).trans (h hr))
theorem mk_R43_scale (h : ∀ (a0 : Int), pre_R43_scale a0 = true → Real (av_R43_scale a0) → spec_R43_scale a0 some = some (V.int .i64 (m_R43_scale a0))) : G_R43_scale := goodHook1 fun l hp => by
  unfold hp_R43_scale at hp
  split at hp
  · rename_i x0
    exact ok_R43_scale x0 fun hr => h x0 hp hr
  · cases hp
noncomputable def env_R23_Clone {R : Type} : Env R := ⟨Tryz.prog, callNil, fun _ _ _ _ _ => none, Tryz.f19.results.toList, maskTab 27 [(0, 0x3c), (1, 0xfc), (2, 0xf8), (3, 0xf8), (4, 0xf0), (5, 0x30)], maskAt [(2, 4), (4, 10), (6, 16), (8, 22), (10, 28)], noSort⟩
noncomputable def spec_R23_Clone {R : Type} (a0 : SHeader) (a1 : SParams) (k : V → Option R) : Option R :=
 bif (roomOK ((0 : Nat) + (List.length a0.Components)) 32) then
 bif (roomOK ((0 : Nat) + (List.length a1.Precincts)) 16) then
 bif (roomOK ((0 : Nat) + (List.length a1.Steps)) 8) then
 k (V.tup [(V.agg [(V.int .i64 a0.Area.X0), (V.int .i64 a0.Area.Y0), (V.int .i64 a0.Area.X1), (V.int .i64 a0.Area.Y1), (V.int .i64 a0.TileW), (V.int .i64 a0.TileH), (V.data SComponent.sh ([] ++ a0.Components))]), (V.agg [(V.int .i64 a1.Kernel), (V.int .i64 a1.Levels), (V.int .i64 a1.Color), (V.int .i64 a1.BlockX), (V.int .i64 a1.BlockY), (V.data SPoint.sh ([] ++ a1.Precincts)), (V.int .i64 a1.Order), (V.int .i64 a1.Layers), (V.bool a1.Mode.Bypass), (V.bool a1.Mode.Restart), (V.bool a1.Mode.Reset), (V.bool a1.Mode.Causal), (V.bool a1.Mode.Symbols), (V.bool a1.Divide), (V.bool a1.Sync), (V.bool a1.Fence), (V.data Sheadseg_failure.sh ([] ++ a1.Steps)), (V.int .i64 a1.Dead), (V.int .i64 a1.Shift)])])
 else none
 else none
 else none
abbrev av_R23_Clone (a0 : SHeader) (a1 : SParams) : List V := [(SHeader.v a0), (SParams.v a1)]
theorem spec_R23_Clone_eq {R : Type} (a0 : SHeader) (a1 : SParams) (k : V → Option R) : fnK env_R23_Clone Tryz.f19 (av_R23_Clone a0 a1) k = spec_R23_Clone a0 a1 k := by kernel_rfl
theorem ok_R23_Clone (a0 : SHeader) (a1 : SParams) {v : V} (h : Real (av_R23_Clone a0 a1) → spec_R23_Clone a0 a1 some = some v) : FunOK Tryz.prog 19 (av_R23_Clone a0 a1) v :=
  fn_ok (fn := Tryz.f19) (c := bodyOf Tryz.f19) (E := env_R23_Clone) ⟨by kernel_rfl, goodNil, rfl, goodS_no⟩ rfl (by kernel_rfl) (by kernel_rfl) (by kernel_rfl)
  (loopsOK_of _ (by
    have e : loopsOf (bodyOf Tryz.f19) = [] := by kernel_rfl
    rw [e]
    intro p hp; cases hp))
  (fun hr => (spec_R23_Clone_eq a0 a1 some).trans (h hr))
theorem mk_R23_Clone (h : ∀ (a0 : SHeader) (a1 : SParams), pre_R23_Clone a0 a1 = true → Real (av_R23_Clone a0 a1) → spec_R23_Clone a0 a1 some = some (V.tup [(SHeader.v (m_R23_Clone a0 a1).1), (SParams.v (m_R23_Clone a0 a1).2)])) : G_R23_Clone := goodHook1 fun l hp => by
  unfold hp_R23_Clone at hp
  split at hp
  · rename_i x0 x1 x2 x3 x4 x5 x6 x7 x8 x9 x10 x11 x12 x13 x14 x15 x16 x17 x18 x19 x20 x21 x22 x23 x24 x25
    exact ok_R23_Clone (SHeader.mk (SRect.mk x0 x1 x2 x3) x4 x5 x6) (SParams.mk x7 x8 x9 x10 x11 x12 x13 x14 (SMode.mk x15 x16 x17 x18 x19) x20 x21 x22 x23 x24 x25) fun hr => h (SHeader.mk (SRect.mk x0 x1 x2 x3) x4 x5 x6) (SParams.mk x7 x8 x9 x10 x11 x12 x13 x14 (SMode.mk x15 x16 x17 x18 x19) x20 x21 x22 x23 x24 x25) hp hr
  · cases hp
theorem au_R23_Clone (a0 : SHeader) (a1 : SParams) : pre_R23_Clone a0 a1 = true → spec_R23_Clone a0 a1 some = some ((fun (m : SHeader × SParams) => (V.tup [(SHeader.v m.1), (SParams.v m.2)])) (m_R23_Clone a0 a1)) := by
  repeat' (first | exact fun _ => rfl | exact fun h => absurd h (by decide) | refine bif_p (v := (fun (m : SHeader × SParams) => (V.tup [(SHeader.v m.1), (SParams.v m.2)]))) ?_ ?_)
theorem good_R23_Clone_of : G_R23_Clone := mk_R23_Clone (fun _ _ hp _ => au_R23_Clone _ _ hp)
noncomputable def env_R43_Header {R : Type} : Env R := ⟨Tryz.prog, callCons 17 c_R23_Header (callCons 18 c_R43_scale (callCons 19 c_R23_Clone (callCons 20 c_R01_Reduce callNil))), fun _ _ _ _ _ => none, Tryz.f7.results.toList, maskTab 68 [(0, 0x1f00300016), (1, 0x1f00300056), (2, 0x1f00304056), (3, 0x30), (4, 0x1f00400016), (5, 0x30), (6, 0x1f00000094), (7, 0x2000000094), (8, 0x30), (9, 0x194), (10, 0x194), (11, 0x194), (12, 0x110), (13, 0x510), (14, 0x10000000000000510), (15, 0x30), (16, 0x30)], maskAt [(2, 3), (4, 6), (6, 8), (8, 12), (10, 18), (12, 21), (14, 24), (16, 36), (18, 39), (20, 49), (22, 56), (24, 62), (26, 68), (28, 71), (30, 73), (32, 77)], noSort⟩
noncomputable def spec_R43_Header {R : Type} (a0 : SHeader) (a1 : Int) (k : V → Option R) : Option R :=
 let c1 : Int := (m_R23_Header a0)
 bif (c1 != (0 : Int)) then
 k (V.tup [(V.agg [(V.int .i64 (0 : Int)), (V.int .i64 (0 : Int)), (V.int .i64 (0 : Int)), (V.int .i64 (0 : Int)), (V.int .i64 (0 : Int)), (V.int .i64 (0 : Int)), (V.data SComponent.sh [])]), (V.int .i64 c1)])
 else
 let b2 : Bool := (decide (a1 < (0 : Int)))
 let b3 : Bool := (decide (a1 > (5 : Int)))
 let b4 : Bool := (bif b2 then true else b3)
 bif b4 then
 k (V.tup [(V.agg [(V.int .i64 (0 : Int)), (V.int .i64 (0 : Int)), (V.int .i64 (0 : Int)), (V.int .i64 (0 : Int)), (V.int .i64 (0 : Int)), (V.int .i64 (0 : Int)), (V.data SComponent.sh [])]), (V.int .i64 (2 : Int))])
 else
 bif (pre_R43_scale a1) then
 let c5 : Int := (m_R43_scale a1)
 bif (c5 != 0) then
 let b6 : Bool := ((Int.tmod a0.TileW c5) != (0 : Int))
 bif ((c5 != 0) || !(b6 == false)) then
 let b7 : Bool := ((Int.tmod a0.TileH c5) != (0 : Int))
 let b8 : Bool := (bif b6 then true else b7)
 bif b8 then
 k (V.tup [(V.agg [(V.int .i64 (0 : Int)), (V.int .i64 (0 : Int)), (V.int .i64 (0 : Int)), (V.int .i64 (0 : Int)), (V.int .i64 (0 : Int)), (V.int .i64 (0 : Int)), (V.data SComponent.sh [])]), (V.int .i64 (13 : Int))])
 else
 bif (pre_R23_Clone a0 (SParams.mk (0 : Int) (0 : Int) (0 : Int) (0 : Int) (0 : Int) [] (0 : Int) (0 : Int) (SMode.mk false false false false false) false false false [] (0 : Int) (0 : Int))) then
 let c9 : SHeader × SParams := (m_R23_Clone a0 (SParams.mk (0 : Int) (0 : Int) (0 : Int) (0 : Int) (0 : Int) [] (0 : Int) (0 : Int) (SMode.mk false false false false false) false false false [] (0 : Int) (0 : Int)))
 let c10 : SRect := (m_R01_Reduce a0.Area c5 c5)
 bif (c5 != 0) then
 let x11 : Int := (IntKind.wrap .i64 (Int.tdiv a0.TileW c5))
 bif (c5 != 0) then
 let x12 : Int := (IntKind.wrap .i64 (Int.tdiv a0.TileH c5))
 let c13 : Int := (m_R23_Header (SHeader.mk c10 x11 x12 c9.1.Components))
 bif (c13 != (0 : Int)) then
 k (V.tup [(V.agg [(V.int .i64 (0 : Int)), (V.int .i64 (0 : Int)), (V.int .i64 (0 : Int)), (V.int .i64 (0 : Int)), (V.int .i64 (0 : Int)), (V.int .i64 (0 : Int)), (V.data SComponent.sh [])]), (V.int .i64 c13)])
 else
 k (V.tup [(V.agg [(V.int .i64 c10.X0), (V.int .i64 c10.Y0), (V.int .i64 c10.X1), (V.int .i64 c10.Y1), (V.int .i64 x11), (V.int .i64 x12), (V.data SComponent.sh c9.1.Components)]), (V.int .i64 (0 : Int))])
 else none
 else none
 else none
 else none
 else none
 else none
abbrev av_R43_Header (a0 : SHeader) (a1 : Int) : List V := [(SHeader.v a0), (V.int .i64 a1)]
theorem spec_R43_Header_eq {R : Type} (a0 : SHeader) (a1 : Int) (k : V → Option R) : fnK env_R43_Header Tryz.f7 (av_R43_Header a0 a1) k = spec_R43_Header a0 a1 k := by kernel_rfl
theorem ok_R43_Header (h_R23_Header : G_R23_Header) (h_R43_scale : G_R43_scale) (h_R23_Clone : G_R23_Clone) (h_R01_Reduce : G_R01_Reduce) (a0 : SHeader) (a1 : Int) {v : V} (h : Real (av_R43_Header a0 a1) → spec_R43_Header a0 a1 some = some v) : FunOK Tryz.prog 7 (av_R43_Header a0 a1) v :=
  fn_ok (fn := Tryz.f7) (c := bodyOf Tryz.f7) (E := env_R43_Header) ⟨by kernel_rfl, (goodCons h_R23_Header (goodCons h_R43_scale (goodCons h_R23_Clone (goodCons h_R01_Reduce goodNil)))), rfl, goodS_no⟩ rfl (by kernel_rfl) (by kernel_rfl) (by kernel_rfl)
  (loopsOK_of _ (by
    have e : loopsOf (bodyOf Tryz.f7) = [] := by kernel_rfl
    rw [e]
    intro p hp; cases hp))
  (fun hr => (spec_R43_Header_eq a0 a1 some).trans (h hr))
theorem mk_R43_Header (h_R23_Header : G_R23_Header) (h_R43_scale : G_R43_scale) (h_R23_Clone : G_R23_Clone) (h_R01_Reduce : G_R01_Reduce) (h : ∀ (a0 : SHeader) (a1 : Int), pre_R43_Header a0 a1 = true → Real (av_R43_Header a0 a1) → spec_R43_Header a0 a1 some = some (V.tup [(SHeader.v (m_R43_Header a0 a1).1), (V.int .i64 (m_R43_Header a0 a1).2)])) : G_R43_Header := goodHook1 fun l hp => by
  unfold hp_R43_Header at hp
  split at hp
  · rename_i x0 x1 x2 x3 x4 x5 x6 x7
    exact ok_R43_Header h_R23_Header h_R43_scale h_R23_Clone h_R01_Reduce (SHeader.mk (SRect.mk x0 x1 x2 x3) x4 x5 x6) x7 fun hr => h (SHeader.mk (SRect.mk x0 x1 x2 x3) x4 x5 x6) x7 hp hr
  · cases hp
theorem au_R43_Header (a0 : SHeader) (a1 : Int) : pre_R43_Header a0 a1 = true → spec_R43_Header a0 a1 some = some ((fun (m : SHeader × Int) => (V.tup [(SHeader.v m.1), (V.int .i64 m.2)])) (m_R43_Header a0 a1)) := by
  repeat' (first | exact fun _ => rfl | exact fun h => absurd h (by decide) | refine bif_p (v := (fun (m : SHeader × Int) => (V.tup [(SHeader.v m.1), (V.int .i64 m.2)]))) ?_ ?_)
theorem good_R43_Header_of (h_R23_Header : G_R23_Header) (h_R43_scale : G_R43_scale) (h_R23_Clone : G_R23_Clone) (h_R01_Reduce : G_R01_Reduce) : G_R43_Header := mk_R43_Header h_R23_Header h_R43_scale h_R23_Clone h_R01_Reduce (fun _ _ hp _ => au_R43_Header _ _ hp)
noncomputable def fuel_R23_SameHeader_0 (i0_0 : Int) (a0 a1 : SHeader) : Nat :=
 let x6 : Int := (((List.length a0.Components) : Nat) : Int)
 Int.toNat (x6 - i0_0) + 1
noncomputable def step_R23_SameHeader_0 {R : Type} (a0 a1 : SHeader) (i0_0 : Int) (again : Int → Option R) (kn : Int → Option R) (kr : V → Option R) : Option R :=
 let x6 : Int := (((List.length a0.Components) : Nat) : Int)
 bif (decide (i0_0 < x6)) then
 bif (inR i0_0 (List.length a0.Components)) then
 let w7 : List V := (List.getD a0.Components (Int.toNat i0_0) [])
 let s8 : SComponent := (SComponent.of w7)
 bif (inR i0_0 (List.length a1.Components)) then
 let w9 : List V := (List.getD a1.Components (Int.toNat i0_0) [])
 let s10 : SComponent := (SComponent.of w9)
 let b11 : Bool := (!((s8.Depth == s10.Depth) && ((s8.Signed == s10.Signed) && ((s8.DX == s10.DX) && ((s8.DY == s10.DY) && true)))))
 bif b11 then
 kr (V.bool false)
 else
 let x12 : Int := (IntKind.wrap .i64 (i0_0 + (1 : Int)))
 again x12
 else none
 else none
 else
 kn i0_0
noncomputable def loop_R23_SameHeader_0 {R : Type} (a0 a1 : SHeader) : Nat → Int → (Int → Option R) → (V → Option R) → Option R
  | 0, _, _, _ => none
  | n + 1, i0_0, kn, kr => step_R23_SameHeader_0 a0 a1 i0_0 (fun yi0_0 => loop_R23_SameHeader_0 a0 a1 n yi0_0 kn kr) kn kr
noncomputable def shape_R23_SameHeader_0 : ST := ⟨.undef :: .undef :: .ptr 0 0 0 :: .ptr 1 0 0 :: .undef :: .int .i64 :: unds 46 [], [(0, .var SHeader.sh false SHeader.ts), (1, .var SHeader.sh false SHeader.ts)], 33⟩
noncomputable def st_R23_SameHeader_0 (a0 a1 : SHeader) (i0_0 : Int) : St := shape_R23_SameHeader_0.put [.i i0_0, .i a0.Area.X0, .i a0.Area.Y0, .i a0.Area.X1, .i a0.Area.Y1, .i a0.TileW, .i a0.TileH, .r a0.Components, .i a1.Area.X0, .i a1.Area.Y0, .i a1.Area.X1, .i a1.Area.Y1, .i a1.TileW, .i a1.TileH, .r a1.Components]
noncomputable def hook_R23_SameHeader_0 {R : Type} : LoopG R := fun l kn _ kr => match l with
  | .i i0_0 :: .i a0_Area_X0 :: .i a0_Area_Y0 :: .i a0_Area_X1 :: .i a0_Area_Y1 :: .i a0_TileW :: .i a0_TileH :: .r a0_Components :: .i a1_Area_X0 :: .i a1_Area_Y0 :: .i a1_Area_X1 :: .i a1_Area_Y1 :: .i a1_TileW :: .i a1_TileH :: .r a1_Components :: [] => loop_R23_SameHeader_0 (SHeader.mk (SRect.mk a0_Area_X0 a0_Area_Y0 a0_Area_X1 a0_Area_Y1) a0_TileW a0_TileH a0_Components) (SHeader.mk (SRect.mk a1_Area_X0 a1_Area_Y0 a1_Area_X1 a1_Area_Y1) a1_TileW a1_TileH a1_Components) (fuel_R23_SameHeader_0 i0_0 (SHeader.mk (SRect.mk a0_Area_X0 a0_Area_Y0 a0_Area_X1 a0_Area_Y1) a0_TileW a0_TileH a0_Components) (SHeader.mk (SRect.mk a1_Area_X0 a1_Area_Y0 a1_Area_X1 a1_Area_Y1) a1_TileW a1_TileH a1_Components)) i0_0 (fun yi0_0 => kn (st_R23_SameHeader_0 (SHeader.mk (SRect.mk a0_Area_X0 a0_Area_Y0 a0_Area_X1 a0_Area_Y1) a0_TileW a0_TileH a0_Components) (SHeader.mk (SRect.mk a1_Area_X0 a1_Area_Y0 a1_Area_X1 a1_Area_Y1) a1_TileW a1_TileH a1_Components) yi0_0)) kr
  | _ => none
noncomputable def env_R23_SameHeader {R : Type} : Env R := ⟨Tryz.prog, callNil, fun id => bif Nat.beq id 0 then loopAlt shape_R23_SameHeader_0 hook_R23_SameHeader_0 loopNil else (fun _ _ _ _ _ => none) id, Tryz.f21.results.toList, maskTab 52 [(0, 0x1fcf9f00c), (1, 0x20000000c), (2, 0x10), (3, 0x2c), (4, 0x400000002c), (5, 0x2c), (6, 0x800000000002c), (7, 0x10), (8, 0x10)], maskAt [(1, 33), (2, 3), (4, 31), (6, 32), (8, 37), (10, 54), (12, 42), (14, 53), (16, 57)], noSort⟩
theorem step_R23_SameHeader_0_eq {R : Type} (a0 a1 : SHeader) (si0_0 : Int) (kn : St → Option R) (kx : Nat → St → Option R) (kr : V → Option R) (n : Nat) (i0_0 : Int) :
    loopN env_R23_SameHeader 0 (loopAt Tryz.f21 0) (st_R23_SameHeader_0 a0 a1 si0_0) kn kx kr (n + 1) (st_R23_SameHeader_0 a0 a1 i0_0) =
    step_R23_SameHeader_0 a0 a1 i0_0 (fun yi0_0 => loopN env_R23_SameHeader 0 (loopAt Tryz.f21 0) (st_R23_SameHeader_0 a0 a1 si0_0) kn kx kr n (st_R23_SameHeader_0 a0 a1 yi0_0)) (fun yi0_0 => kn (st_R23_SameHeader_0 a0 a1 yi0_0)) kr := by kernel_rfl
theorem loop_R23_SameHeader_0_eq {R : Type} (a0 a1 : SHeader) (si0_0 : Int) (kn : St → Option R) (kx : Nat → St → Option R) (kr : V → Option R) : ∀ (n : Nat) (i0_0 : Int),
    loop_R23_SameHeader_0 a0 a1 n i0_0 (fun yi0_0 => kn (st_R23_SameHeader_0 a0 a1 yi0_0)) kr = loopN env_R23_SameHeader 0 (loopAt Tryz.f21 0) (st_R23_SameHeader_0 a0 a1 si0_0) kn kx kr n (st_R23_SameHeader_0 a0 a1 i0_0)
  | 0, _ => rfl
  | n + 1, i0_0 => by
    rw [step_R23_SameHeader_0_eq, loop_R23_SameHeader_0]
    congr 1
    funext yi0_0
    exact loop_R23_SameHeader_0_eq a0 a1 si0_0 kn kx kr n yi0_0
theorem goodl_R23_SameHeader_0 {R : Type} {rest} (h : GoodL (R := R) env_R23_SameHeader 0 (loopAt Tryz.f21 0) rest) : GoodL (R := R) env_R23_SameHeader 0 (loopAt Tryz.f21 0) (loopAlt shape_R23_SameHeader_0 hook_R23_SameHeader_0 rest) := by
  refine goodL_alt (fun l kn kx kr r h => ?_) h
  unfold hook_R23_SameHeader_0 at h
  split at h
  · rename_i i0_0 a0_Area_X0 a0_Area_Y0 a0_Area_X1 a0_Area_Y1 a0_TileW a0_TileH a0_Components a1_Area_X0 a1_Area_Y0 a1_Area_X1 a1_Area_Y1 a1_TileW a1_TileH a1_Components
    exact ⟨_, (loop_R23_SameHeader_0_eq (SHeader.mk (SRect.mk a0_Area_X0 a0_Area_Y0 a0_Area_X1 a0_Area_Y1) a0_TileW a0_TileH a0_Components) (SHeader.mk (SRect.mk a1_Area_X0 a1_Area_Y0 a1_Area_X1 a1_Area_Y1) a1_TileW a1_TileH a1_Components) i0_0 kn kx kr _ i0_0).symm.trans h⟩
  · cases h
theorem good_R23_SameHeader_0 {R : Type} : GoodLoop (R := R) env_R23_SameHeader 0 (loopAt Tryz.f21 0) := goodL_loop (g := loopAlt shape_R23_SameHeader_0 hook_R23_SameHeader_0 loopNil) (fun _ _ _ _ => rfl) (goodl_R23_SameHeader_0 goodL_nil)
noncomputable def spec_R23_SameHeader {R : Type} (a0 a1 : SHeader) (k : V → Option R) : Option R :=
 let b1 : Bool := (!((a0.Area.X0 == a1.Area.X0) && ((a0.Area.Y0 == a1.Area.Y0) && ((a0.Area.X1 == a1.Area.X1) && ((a0.Area.Y1 == a1.Area.Y1) && true)))))
 let b2 : Bool := (bif b1 then true else (a0.TileW != a1.TileW))
 let b3 : Bool := (bif b2 then true else (a0.TileH != a1.TileH))
 bif (b3 == false) then
 let x4 : Int := (((List.length a0.Components) : Nat) : Int)
 let x5 : Int := (((List.length a1.Components) : Nat) : Int)
 bif (x4 != x5) then
 k (V.bool false)
 else
 loop_R23_SameHeader_0 a0 a1 (fuel_R23_SameHeader_0 (0 : Int) a0 a1) (0 : Int) (fun i0_z13 =>
 k (V.bool true)) k
 else
 k (V.bool false)
abbrev av_R23_SameHeader (a0 a1 : SHeader) : List V := [(SHeader.v a0), (SHeader.v a1)]
theorem spec_R23_SameHeader_eq {R : Type} (a0 a1 : SHeader) (k : V → Option R) : fnK env_R23_SameHeader Tryz.f21 (av_R23_SameHeader a0 a1) k = spec_R23_SameHeader a0 a1 k := by kernel_rfl
theorem ok_R23_SameHeader (a0 a1 : SHeader) {v : V} (h : Real (av_R23_SameHeader a0 a1) → spec_R23_SameHeader a0 a1 some = some v) : FunOK Tryz.prog 21 (av_R23_SameHeader a0 a1) v :=
  fn_ok (fn := Tryz.f21) (c := bodyOf Tryz.f21) (E := env_R23_SameHeader) ⟨by kernel_rfl, goodNil, rfl, goodS_no⟩ rfl (by kernel_rfl) (by kernel_rfl) (by kernel_rfl)
  (loopsOK_of _ (by
    have e : loopsOf (bodyOf Tryz.f21) = [(0, loopAt Tryz.f21 0)] := by kernel_rfl
    rw [e]
    simp only [List.forall_mem_cons, List.not_mem_nil, false_implies, implies_true, and_true]
    exact good_R23_SameHeader_0))
  (fun hr => (spec_R23_SameHeader_eq a0 a1 some).trans (h hr))
theorem mk_R23_SameHeader (h : ∀ (a0 a1 : SHeader), pre_R23_SameHeader a0 a1 = true → Real (av_R23_SameHeader a0 a1) → spec_R23_SameHeader a0 a1 some = some (V.bool (m_R23_SameHeader a0 a1))) : G_R23_SameHeader := goodHook1 fun l hp => by
  unfold hp_R23_SameHeader at hp
  split at hp
  · rename_i x0 x1 x2 x3 x4 x5 x6 x7 x8 x9 x10 x11 x12 x13
    exact ok_R23_SameHeader (SHeader.mk (SRect.mk x0 x1 x2 x3) x4 x5 x6) (SHeader.mk (SRect.mk x7 x8 x9 x10) x11 x12 x13) fun hr => h (SHeader.mk (SRect.mk x0 x1 x2 x3) x4 x5 x6) (SHeader.mk (SRect.mk x7 x8 x9 x10) x11 x12 x13) hp hr
  · cases hp
end Go.Vm
