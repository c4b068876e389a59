import Derived.Test.YtoldachfmeghkaaGreatWA
import Derived.Test.YtoldachfmeghkaaGreatWG0
import Derived.Test.YtoldachfmeghkaaGreatWG1
import Derived.Test.YtoldachfmeghkaaGreatWG2
import Derived.Test.YtoldachfmeghkaaGreatWG3
import Derived.Test.YtoldachfmeghkaaGreatWG4
import Derived.Test.YtoldachfmeghkaaGreatWG5
import Derived.Test.YtoldachfmeghkaaGreatWG6
import Derived.Test.YtoldachfmeghkaaGreatWG7
set_option linter.unusedVariables false
set_option linter.unusedSimpArgs false
set_option maxRecDepth 100000
noncomputable section
namespace Go.Vm
open Go.Proofs
theorem nat_mul_step {a b m : Nat} (h : a = b + 1) : a * m = b * m + m := by rw [h, Nat.add_mul, Nat.one_mul]
theorem cells_rows (w h lf rt tp bt : Int) (a : SRect) : (rngI tp bt).foldl (fun s j => (rngI lf rt).foldl (fun s i => s ++ [SRect.row (cellOf a w h j i)]) s) [] = ((rngI tp bt).flatMap fun j => (rngI lf rt).map fun i => cellOf a w h j i).map SRect.row := by
  have e : (fun (s : Rows) (j : Int) => (rngI lf rt).foldl (fun s i => s ++ [SRect.row (cellOf a w h j i)]) s) = fun s j => s ++ (rngI lf rt).map (fun i => SRect.row (cellOf a w h j i)) := by
    funext s j
    rw [foldl_snoc]
  rw [e, foldl_app, List.nil_append, List.map_flatMap]
  simp only [List.map_map]
  rfl
theorem mul_small {a b : Nat} (ha : a ≤ 4096) (hb : b ≤ 4096) : a * b ≤ 16777216 := by
  have := Nat.mul_le_mul ha hb
  omega
theorem cells_guard {r : SRect} {w h : Int} (hv : m_rect_Valid r = true) (hw : ¬ w < 1) (hh : ¬ h < 1) :
    0 ≤ m_rect_FloorDiv r.X0 w ∧ m_rect_CeilDiv r.X1 w ≤ 4096 ∧ 0 ≤ m_rect_FloorDiv r.Y0 h ∧ m_rect_CeilDiv r.Y1 h ≤ 4096 := by
  obtain ⟨⟨h1, h2, h3⟩, h4, h5, h6⟩ := Valid_iff.1 hv
  have a1 := FloorDiv_bd (x := r.X0) (w := w) (by omega) (by omega) (by omega)
  have a2 := CeilDiv_bd (x := r.X1) (w := w) (by omega) (by omega) (by omega)
  have a3 := FloorDiv_bd (x := r.Y0) (w := h) (by omega) (by omega) (by omega)
  have a4 := CeilDiv_bd (x := r.Y1) (w := h) (by omega) (by omega) (by omega)
  omega
theorem cellOf_alt (a : SRect) (w h j i : Int) : m_R01_Intersect a ⟨IntKind.wrap .i64 (i * w), IntKind.wrap .i64 (j * h), IntKind.wrap .i64 (IntKind.wrap .i64 (i * w) + w), IntKind.wrap .i64 (IntKind.wrap .i64 (j * h) + h)⟩ = cellOf a w h j i := by
  have e : ∀ (i w : Int), IntKind.wrap .i64 (IntKind.wrap .i64 (i * w) + w) = IntKind.wrap .i64 (IntKind.wrap .i64 (i + 1) * w) := by
    intro i w
    rw [wrap_wrap_add, wrap_mul_wrap, Int.add_mul, Int.one_mul]
  unfold cellOf
  rw [e, e]
  rfl
theorem R01_Cells_2 {R : Type} (w h lf rt bt j : Int) (a : SRect) (e : Rows → Option R) (hrt : rt ≤ 1099511627776) :
    ∀ (n : Nat) (i : Int) (s : Rows), (0 ≤ i ∧ s.length + (rt - i).toNat ≤ 1099511627776) → (rt - i).toNat + 1 ≤ n →
      loop_R01_Cells_2 w h lf rt bt j a n i s (fun _ r => e r) = e ((rngI i rt).foldl (fun s i => s ++ [SRect.row (cellOf a w h j i)]) s) := by
  refine loop_fold (L := fun n i s => loop_R01_Cells_2 w h lf rt bt j a n i s (fun _ r => e r)) (fun i s => 0 ≤ i ∧ s.length + (rt - i).toNat ≤ 1099511627776) ?_ ?_ ?_
  · intro n i s ⟨h0, hl⟩ hi
    show step_R01_Cells_2 w h lf rt bt j a i s (fun y z => loop_R01_Cells_2 w h lf rt bt j a n y z (fun _ r => e r)) _ = _
    unfold step_R01_Cells_2
    have hroom : roomOK (s.length + 1) 32 = true := room_of (by omega)
    simp only [decide_eq_true hi, cond_true, hroom, cellOf_alt]
    rw [w64 (n := i + 1) (by omega) (by omega)]
  · intro i s ⟨h0, hl⟩ hi
    refine ⟨by omega, ?_⟩
    rw [List.length_append]
    show s.length + 1 + _ ≤ _
    omega
  · intro n i s _ hi
    show step_R01_Cells_2 w h lf rt bt j a i s (fun y z => loop_R01_Cells_2 w h lf rt bt j a n y z (fun _ r => e r)) _ = _
    unfold step_R01_Cells_2
    simp only [decide_eq_false hi, cond_false]
theorem R01_Cells_0 {R : Type} (w h lf rt bt : Int) (a : SRect) (e : Rows → Option R) (hlf : 0 ≤ lf) (hrt : rt ≤ 1099511627776) (hbt : bt ≤ 1099511627776) :
    ∀ (n : Nat) (j : Int) (s : Rows), (0 ≤ j ∧ s.length + (bt - j).toNat * (rt - lf).toNat ≤ 1099511627776) → (bt - j).toNat + 1 ≤ n →
      loop_R01_Cells_0 w h lf rt bt a n j s (fun _ r => e r) = e ((rngI j bt).foldl (fun s j => (rngI lf rt).foldl (fun s i => s ++ [SRect.row (cellOf a w h j i)]) s) s) := by
  refine loop_fold (L := fun n j s => loop_R01_Cells_0 w h lf rt bt a n j s (fun _ r => e r)) (fun j s => 0 ≤ j ∧ s.length + (bt - j).toNat * (rt - lf).toNat ≤ 1099511627776) ?_ ?_ ?_
  · intro n j s ⟨h0, hl⟩ hi
    show step_R01_Cells_0 w h lf rt bt a j s (fun y z => loop_R01_Cells_0 w h lf rt bt a n y z (fun _ r => e r)) _ = _
    unfold step_R01_Cells_0
    have hm := nat_mul_step (a := (bt - j).toNat) (b := (bt - (j + 1)).toNat) (m := (rt - lf).toNat) (by omega)
    simp only [decide_eq_true hi, cond_true]
    rw [w64 (n := j + 1) (by omega) (by omega)]
    exact R01_Cells_2 w h lf rt bt j a (fun r => loop_R01_Cells_0 w h lf rt bt a n (j + 1) r (fun _ r => e r)) hrt _ lf s ⟨hlf, by omega⟩ (Nat.le_refl _)
  · intro j s ⟨h0, hl⟩ hi
    have hm := nat_mul_step (a := (bt - j).toNat) (b := (bt - (j + 1)).toNat) (m := (rt - lf).toNat) (by omega)
    refine ⟨by omega, ?_⟩
    rw [foldl_snoc, List.length_append, List.length_map, length_rngI]
    omega
  · intro n j s _ hi
    show step_R01_Cells_0 w h lf rt bt a j s (fun y z => loop_R01_Cells_0 w h lf rt bt a n y z (fun _ r => e r)) _ = _
    unfold step_R01_Cells_0
    simp only [decide_eq_false hi, cond_false]
theorem good_R01_Cells_of (h_R01_Empty : G_R01_Empty) (h_R01_Intersect : G_R01_Intersect) (h_R01_Valid : G_R01_Valid) (h_R01_CeilDiv : G_R01_CeilDiv) (h_R01_FloorDiv : G_R01_FloorDiv) : G_R01_Cells :=
  mk_R01_Cells (h_R01_Empty := h_R01_Empty) (h_R01_Intersect := h_R01_Intersect) (h_R01_Valid := h_R01_Valid) (h_R01_CeilDiv := h_R01_CeilDiv) (h_R01_FloorDiv := h_R01_FloorDiv) fun r w h hr => by
    unfold spec_R01_Cells m_R01_Cells m_rect_Cells cellsL cellsOK
    rw [R01_Valid_eq, R01_Empty_eq, R01_CeilDiv_eq, R01_FloorDiv_eq]
    cases hv : m_rect_Valid r with
    | false => simp
    | true =>
      cases he : m_rect_Empty r with
      | true => simp
      | false =>
        by_cases hw : w < 1
        · simp [hw]
        by_cases hh : h < 1
        · simp [hw, hh]
        obtain ⟨b1, b2, b3, b4⟩ := cells_guard hv hw hh
        simp only [decide_eq_false hw, decide_eq_false hh, cond_false, cond_true, Bool.not_true, Bool.not_false, Bool.true_and, Bool.and_true, beq_self_eq_true]
        cases hbig : decide (IntKind.wrap .i64 (IntKind.wrap .i64 (m_rect_CeilDiv r.X1 w - m_rect_FloorDiv r.X0 w) * IntKind.wrap .i64 (m_rect_CeilDiv r.Y1 h - m_rect_FloorDiv r.Y0 h)) > 65536) with
        | true => rfl
        | false =>
          simp only [cond_false, Bool.not_false, cond_true]
          have hm := mul_small (a := (m_rect_CeilDiv r.Y1 h - m_rect_FloorDiv r.Y0 h).toNat) (b := (m_rect_CeilDiv r.X1 w - m_rect_FloorDiv r.X0 w).toNat) (by omega) (by omega)
          refine (R01_Cells_0 w h (m_rect_FloorDiv r.X0 w) (m_rect_CeilDiv r.X1 w) (m_rect_CeilDiv r.Y1 h) r (fun q => some (V.data SRect.sh q)) b1 (by omega) (by omega) _ (m_rect_FloorDiv r.Y0 h) [] ⟨b3, by simp only [List.length_nil]; omega⟩ (Nat.le_refl _)).trans ?_
          rw [cells_rows]
end Go.Vm
set_option linter.unusedVariables false
set_option linter.unusedSimpArgs false
set_option maxRecDepth 100000
noncomputable section
namespace Go.Vm
open Go.Proofs
theorem R23_step_Header_0 {R : Type} (h : SHeader) (i : Int) (again kn : Int → Option R) (kr : V → Option R) (h0 : 0 ≤ i) (hl : h.Components.length ≤ 1048576) :
    step_R23_Header_0 h i again kn kr = bif decide (i < (h.Components.length : Int)) then (bif compOK h.Area (h.Components.getD i.toNat []) then again (i + 1) else kr (V.int .i64 12)) else kn i := by
  unfold step_R23_Header_0
  rw [R01_Reduce_eq, R01_Empty_eq]
  by_cases hi : i < (h.Components.length : Int)
  · simp only [decide_eq_true hi, cond_true, inR_of h0 hi, R23_in_eq, not_b]
    rw [w64 (n := i + 1) (by omega) (by omega)]
    unfold compOK
    cases inB 1 16 (SComponent.of (h.Components.getD i.toNat [])).Depth <;> cases inB 1 4 (SComponent.of (h.Components.getD i.toNat [])).DX <;> cases inB 1 4 (SComponent.of (h.Components.getD i.toNat [])).DY <;>
      cases m_rect_Empty (m_rect_Reduce h.Area (SComponent.of (h.Components.getD i.toNat [])).DX (SComponent.of (h.Components.getD i.toNat [])).DY) <;> rfl
  · simp only [decide_eq_false hi, cond_false]
theorem R23_step_Header_2 {R : Type} (h : SHeader) (i : Int) (again kn : Int → Option R) (kr : V → Option R) (h0 : 0 ≤ i) (hl : h.Components.length ≤ 1048576) :
    step_R23_Header_2 h i again kn kr = bif decide (i < (h.Components.length : Int)) then (bif compFits h.Area (h.Components.getD i.toNat []) then again (i + 1) else kr (V.int .i64 5)) else kn i := by
  unfold step_R23_Header_2
  rw [R01_Reduce_eq, R01_Area_eq]
  by_cases hi : i < (h.Components.length : Int)
  · simp only [decide_eq_true hi, cond_true, inR_of h0 hi]
    rw [w64 (n := i + 1) (by omega) (by omega)]
    unfold compFits
    cases decide (m_rect_Area (m_rect_Reduce h.Area (SComponent.of (h.Components.getD i.toNat [])).DX (SComponent.of (h.Components.getD i.toNat [])).DY) > 1048576) <;> rfl
  · simp only [decide_eq_false hi, cond_false]
theorem R23_loop_Header_0 {R : Type} (h : SHeader) (e : Option R) (kr : V → Option R) (hl : h.Components.length ≤ 1048576) :
    loop_R23_Header_0 h (fuel_R23_Header_0 0 h) 0 (fun _ => e) kr = bif h.Components.all (compOK h.Area) then e else kr (V.int .i64 12) := by
  refine (loop_allB (a := 0) (b := (h.Components.length : Int)) (L := fun n i => loop_R23_Header_0 h n i (fun _ => e) kr) (ok := fun i => compOK h.Area (h.Components.getD i.toNat [])) (e := e) (x := kr (V.int .i64 12)) (fun n i h0 => R23_step_Header_0 h i _ _ kr h0 hl) _ (Nat.le_refl _)).trans ?_
  rw [rng_all (compOK h.Area)]
theorem R23_loop_Header_2 {R : Type} (h : SHeader) (e : Option R) (kr : V → Option R) (hl : h.Components.length ≤ 1048576) :
    loop_R23_Header_2 h (fuel_R23_Header_2 0 h) 0 (fun _ => e) kr = bif h.Components.all (compFits h.Area) then e else kr (V.int .i64 5) := by
  refine (loop_allB (a := 0) (b := (h.Components.length : Int)) (L := fun n i => loop_R23_Header_2 h n i (fun _ => e) kr) (ok := fun i => compFits h.Area (h.Components.getD i.toNat [])) (e := e) (x := kr (V.int .i64 5)) (fun n i h0 => R23_step_Header_2 h i _ _ kr h0 hl) _ (Nat.le_refl _)).trans ?_
  rw [rng_all (compFits h.Area)]
theorem R23_tiles_eq (h : SHeader) : m_R23_tiles h = nTiles h := rfl
theorem R23_head_spec (h : SHeader) : spec_R23_Header h some = some (V.int .i64 (m_params_Header h)) := by
  unfold spec_R23_Header m_params_Header headOK
  rw [R01_Valid_eq, R01_Empty_eq, R23_tiles_eq]
  simp only [R23_in_eq, not_b, b_false, cond_true]
  cases hv : m_rect_Valid h.Area with
  | false => rfl
  | true =>
    cases he : m_rect_Empty h.Area with
    | true => rfl
    | false =>
      cases hw : inB 1 4096 h.TileW with
      | false => rfl
      | true =>
        cases hh : inB 1 4096 h.TileH with
        | false => rfl
        | true =>
          cases hc : inB 1 4 (h.Components.length : Int) with
          | false => rfl
          | true =>
            have hl : h.Components.length ≤ 1048576 := by have := inB_iff.1 hc; omega
            simp only [cond_true, cond_false, Bool.not_true, Bool.not_false, Bool.true_and, Bool.and_true]
            rw [R23_loop_Header_0 h _ some hl, R23_loop_Header_2 h _ some hl]
            cases ha : h.Components.all (compOK h.Area) with
            | false => rfl
            | true =>
              simp only [cond_true]
              cases decide (nTiles h > 1024) with
              | true => rfl
              | false => cases h.Components.all (compFits h.Area) <;> rfl
theorem good_R23_Header_of (h1 : G_R01_Valid) (h2 : G_R01_Empty) (h3 : G_R01_Reduce) (h4 : G_R23_in) (h5 : G_R23_tiles) (h7 : G_R01_Area) : G_R23_Header := by
  refine mk_R23_Header ?_ ?_ ?_ ?_ ?_ ?_ (fun h _ => R23_head_spec h) <;> assumption
end Go.Vm
