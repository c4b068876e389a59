import Derived.Test.YtplgoojpbnobiaaGreatWP1
import Derived.Test.YtplgoojpbnobiaaGreatWG0
import Derived.Test.YtplgoojpbnobiaaGreatWG1
import Derived.Test.YtplgoojpbnobiaaGreatWG2
import Derived.Test.YtplgoojpbnobiaaGreatWG3
set_option linter.unusedVariables false
set_option linter.unusedSimpArgs false
set_option maxRecDepth 100000
noncomputable section
namespace Go.Vm
open Go.Proofs
theorem step_Header_0 {R : Type} (h : SHeader) (i : Int) (again kn : Int → Option R) (kr : V → Option R) (h0 : 0 ≤ i) (hl : h.Components.length ≤ 1048576) :
    step_params_Header_0 h.Components (h.Components.length : Int) h i again kn kr = bif decide (i < (h.Components.length : Int)) then (bif compOK h.Area (h.Components.getD i.toNat []) then again (i + 1) else kr (V.int .i64 12)) else kn i := by
  unfold step_params_Header_0
  by_cases hi : i < (h.Components.length : Int)
  · simp only [decide_eq_true hi, cond_true, inR_of h0 hi, within1, within2, pwithin1, pwithin2, not_b]
    rw [w64 (n := i + 1) (by omega) (by omega)]
    unfold compOK
    cases inB 1 16 (SComponent.of (h.Components.getD i.toNat [])).Depth <;> cases inB 1 4 (SComponent.of (h.Components.getD i.toNat [])).DX <;> cases inB 1 4 (SComponent.of (h.Components.getD i.toNat [])).DY <;>
      cases m_rect_Empty (m_rect_Reduce h.Area (SComponent.of (h.Components.getD i.toNat [])).DX (SComponent.of (h.Components.getD i.toNat [])).DY) <;> rfl
  · simp only [decide_eq_false hi, cond_false]
theorem step_Header_2 {R : Type} (h : SHeader) (i : Int) (again kn : Int → Option R) (kr : V → Option R) (h0 : 0 ≤ i) (hl : h.Components.length ≤ 1048576) :
    step_params_Header_2 h.Components (h.Components.length : Int) h i again kn kr = bif decide (i < (h.Components.length : Int)) then (bif compFits h.Area (h.Components.getD i.toNat []) then again (i + 1) else kr (V.int .i64 5)) else kn i := by
  unfold step_params_Header_2
  by_cases hi : i < (h.Components.length : Int)
  · simp only [decide_eq_true hi, cond_true, inR_of h0 hi]
    rw [w64 (n := i + 1) (by omega) (by omega)]
    unfold compFits
    cases decide (m_rect_Area (m_rect_Reduce h.Area (SComponent.of (h.Components.getD i.toNat [])).DX (SComponent.of (h.Components.getD i.toNat [])).DY) > 1048576) <;> rfl
  · simp only [decide_eq_false hi, cond_false]
theorem loop_Header_0 {R : Type} (h : SHeader) (e : Option R) (kr : V → Option R) (hl : h.Components.length ≤ 1048576) :
    loop_params_Header_0 h.Components (h.Components.length : Int) h (fuel_params_Header_0 h.Components (h.Components.length : Int) 0 h) 0 (fun _ => e) kr = bif h.Components.all (compOK h.Area) then e else kr (V.int .i64 12) := by
  refine (loop_allB (a := 0) (b := (h.Components.length : Int)) (L := fun n i => loop_params_Header_0 h.Components (h.Components.length : Int) h n i (fun _ => e) kr) (ok := fun i => compOK h.Area (h.Components.getD i.toNat [])) (e := e) (x := kr (V.int .i64 12)) (fun n i h0 => step_Header_0 h i _ _ kr h0 hl) _ (Nat.le_refl _)).trans ?_
  rw [rng_all (compOK h.Area)]
theorem loop_Header_2 {R : Type} (h : SHeader) (e : Option R) (kr : V → Option R) (hl : h.Components.length ≤ 1048576) :
    loop_params_Header_2 h.Components (h.Components.length : Int) h (fuel_params_Header_2 h.Components (h.Components.length : Int) 0 h) 0 (fun _ => e) kr = bif h.Components.all (compFits h.Area) then e else kr (V.int .i64 5) := by
  refine (loop_allB (a := 0) (b := (h.Components.length : Int)) (L := fun n i => loop_params_Header_2 h.Components (h.Components.length : Int) h n i (fun _ => e) kr) (ok := fun i => compFits h.Area (h.Components.getD i.toNat [])) (e := e) (x := kr (V.int .i64 5)) (fun n i h0 => step_Header_2 h i _ _ kr h0 hl) _ (Nat.le_refl _)).trans ?_
  rw [rng_all (compFits h.Area)]
theorem head_spec (h : SHeader) : spec_params_Header h some = some (V.int .i64 (m_params_Header h)) := by
  unfold spec_params_Header m_params_Header headOK
  simp only [within1, within2, pwithin1, pwithin2, not_b, b_false, cond_true]
  cases hv : m_rect_Valid h.Area with
  | false => rfl
  | true =>
    cases he : m_rect_Empty h.Area with
    | true => rfl
    | false =>
      cases hw : inB 1 4096 h.TileW with
      | false => rfl
      | true =>
        cases hh : inB 1 4096 h.TileH with
        | false => rfl
        | true =>
          cases hc : inB 1 4 (h.Components.length : Int) with
          | false => rfl
          | true =>
            have hl : h.Components.length ≤ 1048576 := by have := inB_iff.1 hc; omega
            simp only [cond_true, cond_false, Bool.not_true, Bool.not_false, Bool.true_and, Bool.and_true]
            rw [loop_Header_0 h _ some hl, loop_Header_2 h _ some hl]
            cases ha : h.Components.all (compOK h.Area) with
            | false => rfl
            | true =>
              unfold nTiles
              simp only [cond_true]
              cases decide (IntKind.wrap .i64 (IntKind.wrap .i64 (m_rect_CeilDiv h.Area.X1 h.TileW - m_rect_FloorDiv h.Area.X0 h.TileW) * IntKind.wrap .i64 (m_rect_CeilDiv h.Area.Y1 h.TileH - m_rect_FloorDiv h.Area.Y0 h.TileH)) > 1024) with
              | true => rfl
              | false => cases h.Components.all (compFits h.Area) <;> rfl
theorem good_params_Header_of (h1 : G_rect_Valid) (h2 : G_rect_Empty) (h3 : G_rect_Reduce) (h4 : G_params_within) (h5 : G_rect_CeilDiv) (h6 : G_rect_FloorDiv) (h7 : G_rect_Area) : G_params_Header := by
  refine mk_params_Header ?_ ?_ ?_ ?_ ?_ ?_ ?_ (fun h _ => head_spec h) <;> assumption
theorem R23_step_Header_0 {R : Type} (h : SHeader) (i : Int) (again kn : Int → Option R) (kr : V → Option R) (h0 : 0 ≤ i) (hl : h.Components.length ≤ 1048576) :
    step_R23_Header_0 h i again kn kr = bif decide (i < (h.Components.length : Int)) then (bif compOK h.Area (h.Components.getD i.toNat []) then again (i + 1) else kr (V.int .i64 12)) else kn i := by
  unfold step_R23_Header_0
  rw [R01_Reduce_eq, R01_Empty_eq]
  by_cases hi : i < (h.Components.length : Int)
  · simp only [decide_eq_true hi, cond_true, inR_of h0 hi, R23_in_eq, not_b]
    rw [w64 (n := i + 1) (by omega) (by omega)]
    unfold compOK
    cases inB 1 16 (SComponent.of (h.Components.getD i.toNat [])).Depth <;> cases inB 1 4 (SComponent.of (h.Components.getD i.toNat [])).DX <;> cases inB 1 4 (SComponent.of (h.Components.getD i.toNat [])).DY <;>
      cases m_rect_Empty (m_rect_Reduce h.Area (SComponent.of (h.Components.getD i.toNat [])).DX (SComponent.of (h.Components.getD i.toNat [])).DY) <;> rfl
  · simp only [decide_eq_false hi, cond_false]
theorem R23_step_Header_2 {R : Type} (h : SHeader) (i : Int) (again kn : Int → Option R) (kr : V → Option R) (h0 : 0 ≤ i) (hl : h.Components.length ≤ 1048576) :
    step_R23_Header_2 h i again kn kr = bif decide (i < (h.Components.length : Int)) then (bif compFits h.Area (h.Components.getD i.toNat []) then again (i + 1) else kr (V.int .i64 5)) else kn i := by
  unfold step_R23_Header_2
  rw [R01_Reduce_eq, R01_Area_eq]
  by_cases hi : i < (h.Components.length : Int)
  · simp only [decide_eq_true hi, cond_true, inR_of h0 hi]
    rw [w64 (n := i + 1) (by omega) (by omega)]
    unfold compFits
    cases decide (m_rect_Area (m_rect_Reduce h.Area (SComponent.of (h.Components.getD i.toNat [])).DX (SComponent.of (h.Components.getD i.toNat [])).DY) > 1048576) <;> rfl
  · simp only [decide_eq_false hi, cond_false]
theorem R23_loop_Header_0 {R : Type} (h : SHeader) (e : Option R) (kr : V → Option R) (hl : h.Components.length ≤ 1048576) :
    loop_R23_Header_0 h (fuel_R23_Header_0 0 h) 0 (fun _ => e) kr = bif h.Components.all (compOK h.Area) then e else kr (V.int .i64 12) := by
  refine (loop_allB (a := 0) (b := (h.Components.length : Int)) (L := fun n i => loop_R23_Header_0 h n i (fun _ => e) kr) (ok := fun i => compOK h.Area (h.Components.getD i.toNat [])) (e := e) (x := kr (V.int .i64 12)) (fun n i h0 => R23_step_Header_0 h i _ _ kr h0 hl) _ (Nat.le_refl _)).trans ?_
  rw [rng_all (compOK h.Area)]
theorem R23_loop_Header_2 {R : Type} (h : SHeader) (e : Option R) (kr : V → Option R) (hl : h.Components.length ≤ 1048576) :
    loop_R23_Header_2 h (fuel_R23_Header_2 0 h) 0 (fun _ => e) kr = bif h.Components.all (compFits h.Area) then e else kr (V.int .i64 5) := by
  refine (loop_allB (a := 0) (b := (h.Components.length : Int)) (L := fun n i => loop_R23_Header_2 h n i (fun _ => e) kr) (ok := fun i => compFits h.Area (h.Components.getD i.toNat [])) (e := e) (x := kr (V.int .i64 5)) (fun n i h0 => R23_step_Header_2 h i _ _ kr h0 hl) _ (Nat.le_refl _)).trans ?_
  rw [rng_all (compFits h.Area)]
theorem R23_tiles_eq (h : SHeader) : m_R23_tiles h = nTiles h := rfl
theorem R23_head_spec (h : SHeader) : spec_R23_Header h some = some (V.int .i64 (m_params_Header h)) := by
  unfold spec_R23_Header m_params_Header headOK
  rw [R01_Valid_eq, R01_Empty_eq, R23_tiles_eq]
  simp only [R23_in_eq, not_b, b_false, cond_true]
  cases hv : m_rect_Valid h.Area with
  | false => rfl
  | true =>
    cases he : m_rect_Empty h.Area with
    | true => rfl
    | false =>
      cases hw : inB 1 4096 h.TileW with
      | false => rfl
      | true =>
        cases hh : inB 1 4096 h.TileH with
        | false => rfl
        | true =>
          cases hc : inB 1 4 (h.Components.length : Int) with
          | false => rfl
          | true =>
            have hl : h.Components.length ≤ 1048576 := by have := inB_iff.1 hc; omega
            simp only [cond_true, cond_false, Bool.not_true, Bool.not_false, Bool.true_and, Bool.and_true]
            rw [R23_loop_Header_0 h _ some hl, R23_loop_Header_2 h _ some hl]
            cases ha : h.Components.all (compOK h.Area) with
            | false => rfl
            | true =>
              simp only [cond_true]
              cases decide (nTiles h > 1024) with
              | true => rfl
              | false => cases h.Components.all (compFits h.Area) <;> rfl
theorem good_R23_Header_of (h1 : G_R01_Valid) (h2 : G_R01_Empty) (h3 : G_R01_Reduce) (h4 : G_R23_in) (h5 : G_R23_tiles) (h7 : G_R01_Area) : G_R23_Header := by
  refine mk_R23_Header ?_ ?_ ?_ ?_ ?_ ?_ (fun h _ => R23_head_spec h) <;> assumption
end Go.Vm
