import Derived.Test.YtplgoojpbnobiaaGreatWA
import Derived.Test.YtplgoojpbnobiaaGreatWG0
import Derived.Test.YtplgoojpbnobiaaGreatWG1
import Derived.Test.YtplgoojpbnobiaaGreatWG2
import Derived.Test.YtplgoojpbnobiaaGreatWG3
set_option linter.unusedVariables false
set_option linter.unusedSimpArgs false
set_option maxRecDepth 100000
noncomputable section
namespace Go.Vm
open Go.Proofs
theorem good_params_within : G_params_within := mk_params_within fun lo hi l hp hr => by
  have hl : l.length ≤ 1048576 := Nat.le_of_ble_eq_true hp
  have h := loop_all (a := 0) (b := (l.length : Int)) (L := fun n i => loop_params_within_0 lo hi l (l.length : Int) n i (fun _ => some (V.bool true)) some)
    (ok := fun i => inB lo hi (V.toInt (List.getD (l.getD i.toNat []) 0 V.undef))) (e := some (V.bool true)) (x := some (V.bool false))
    (fun n i h0 hi' hok => by
      show step_params_within_0 lo hi l (l.length : Int) i (fun y => loop_params_within_0 lo hi l (l.length : Int) n y (fun _ => some (V.bool true)) some) _ _ = _
      unfold step_params_within_0
      simp only [decide_eq_true hi', cond_true, inR_of h0 hi', inB_t hok, cond_false]
      rw [w64 (by omega) (by omega)])
    (fun n i h0 hi' hok => by
      show step_params_within_0 lo hi l (l.length : Int) i (fun y => loop_params_within_0 lo hi l (l.length : Int) n y (fun _ => some (V.bool true)) some) _ _ = _
      unfold step_params_within_0
      simp only [decide_eq_true hi', cond_true, inR_of h0 hi', inB_f hok, cond_false])
    (fun n i h0 hi' => by
      show step_params_within_0 lo hi l (l.length : Int) i (fun y => loop_params_within_0 lo hi l (l.length : Int) n y (fun _ => some (V.bool true)) some) _ _ = _
      unfold step_params_within_0
      simp only [decide_eq_false hi', cond_false])
    (fuel_params_within_0 lo hi l (l.length : Int) 0) (Nat.le_refl _)
  refine Eq.trans h ?_
  rw [rng_all (fun w => inB lo hi (V.toInt (List.getD w 0 V.undef)))]
  show _ = some (V.bool (l.all fun w => inB lo hi (V.toInt (List.getD w 0 V.undef))))
  cases l.all fun w => inB lo hi (V.toInt (List.getD w 0 V.undef)) <;> rfl
theorem rect_Cells_2 {R : Type} (w h lf rt bt j : Int) (a : SRect) (e : Rows → Option R) (hrt : rt ≤ 1099511627776) :
    ∀ (n : Nat) (i : Int) (s : Rows), (0 ≤ i ∧ s.length + (rt - i).toNat ≤ 1099511627776) → (rt - i).toNat + 1 ≤ n →
      loop_rect_Cells_2 w h lf rt bt j a n i s (fun _ r => e r) = e ((rngI i rt).foldl (fun s i => s ++ [SRect.row (cellOf a w h j i)]) s) := by
  refine loop_fold (L := fun n i s => loop_rect_Cells_2 w h lf rt bt j a n i s (fun _ r => e r)) (fun i s => 0 ≤ i ∧ s.length + (rt - i).toNat ≤ 1099511627776) ?_ ?_ ?_
  · intro n i s ⟨h0, hl⟩ hi
    show step_rect_Cells_2 w h lf rt bt j a i s (fun y z => loop_rect_Cells_2 w h lf rt bt j a n y z (fun _ r => e r)) _ = _
    unfold step_rect_Cells_2
    have hroom : roomOK (s.length + 1) 32 = true := room_of (by omega)
    simp only [decide_eq_true hi, cond_true, hroom]
    rw [w64 (n := i + 1) (by omega) (by omega)]
    unfold cellOf
    rw [w64 (n := i + 1) (by omega) (by omega)]
  · intro i s ⟨h0, hl⟩ hi
    refine ⟨by omega, ?_⟩
    rw [List.length_append]
    show s.length + 1 + _ ≤ _
    omega
  · intro n i s _ hi
    show step_rect_Cells_2 w h lf rt bt j a i s (fun y z => loop_rect_Cells_2 w h lf rt bt j a n y z (fun _ r => e r)) _ = _
    unfold step_rect_Cells_2
    simp only [decide_eq_false hi, cond_false]
theorem nat_mul_step {a b m : Nat} (h : a = b + 1) : a * m = b * m + m := by rw [h, Nat.add_mul, Nat.one_mul]
theorem rect_Cells_0 {R : Type} (w h lf rt bt : Int) (a : SRect) (e : Rows → Option R) (hlf : 0 ≤ lf) (hrt : rt ≤ 1099511627776) (hbt : bt ≤ 1099511627776) :
    ∀ (n : Nat) (j : Int) (s : Rows), (0 ≤ j ∧ s.length + (bt - j).toNat * (rt - lf).toNat ≤ 1099511627776) → (bt - j).toNat + 1 ≤ n →
      loop_rect_Cells_0 w h lf rt bt a n j s (fun _ r => e r) = e ((rngI j bt).foldl (fun s j => (rngI lf rt).foldl (fun s i => s ++ [SRect.row (cellOf a w h j i)]) s) s) := by
  refine loop_fold (L := fun n j s => loop_rect_Cells_0 w h lf rt bt a n j s (fun _ r => e r)) (fun j s => 0 ≤ j ∧ s.length + (bt - j).toNat * (rt - lf).toNat ≤ 1099511627776) ?_ ?_ ?_
  · intro n j s ⟨h0, hl⟩ hi
    show step_rect_Cells_0 w h lf rt bt a j s (fun y z => loop_rect_Cells_0 w h lf rt bt a n y z (fun _ r => e r)) _ = _
    unfold step_rect_Cells_0
    have hm := nat_mul_step (a := (bt - j).toNat) (b := (bt - (j + 1)).toNat) (m := (rt - lf).toNat) (by omega)
    simp only [decide_eq_true hi, cond_true]
    rw [w64 (n := j + 1) (by omega) (by omega)]
    exact rect_Cells_2 w h lf rt bt j a (fun r => loop_rect_Cells_0 w h lf rt bt a n (j + 1) r (fun _ r => e r)) hrt _ lf s ⟨hlf, by omega⟩ (Nat.le_refl _)
  · intro j s ⟨h0, hl⟩ hi
    have hm := nat_mul_step (a := (bt - j).toNat) (b := (bt - (j + 1)).toNat) (m := (rt - lf).toNat) (by omega)
    refine ⟨by omega, ?_⟩
    rw [foldl_snoc, List.length_append, List.length_map, length_rngI]
    omega
  · intro n j s _ hi
    show step_rect_Cells_0 w h lf rt bt a j s (fun y z => loop_rect_Cells_0 w h lf rt bt a n y z (fun _ r => e r)) _ = _
    unfold step_rect_Cells_0
    simp only [decide_eq_false hi, cond_false]
theorem cells_rows (w h lf rt tp bt : Int) (a : SRect) : (rngI tp bt).foldl (fun s j => (rngI lf rt).foldl (fun s i => s ++ [SRect.row (cellOf a w h j i)]) s) [] = ((rngI tp bt).flatMap fun j => (rngI lf rt).map fun i => cellOf a w h j i).map SRect.row := by
  have e : (fun (s : Rows) (j : Int) => (rngI lf rt).foldl (fun s i => s ++ [SRect.row (cellOf a w h j i)]) s) = fun s j => s ++ (rngI lf rt).map (fun i => SRect.row (cellOf a w h j i)) := by
    funext s j
    rw [foldl_snoc]
  rw [e, foldl_app, List.nil_append, List.map_flatMap]
  simp only [List.map_map]
  rfl
theorem mul_small {a b : Nat} (ha : a ≤ 4096) (hb : b ≤ 4096) : a * b ≤ 16777216 := by
  have := Nat.mul_le_mul ha hb
  omega
theorem cells_guard {r : SRect} {w h : Int} (hv : m_rect_Valid r = true) (hw : ¬ w < 1) (hh : ¬ h < 1) :
    0 ≤ m_rect_FloorDiv r.X0 w ∧ m_rect_CeilDiv r.X1 w ≤ 4096 ∧ 0 ≤ m_rect_FloorDiv r.Y0 h ∧ m_rect_CeilDiv r.Y1 h ≤ 4096 := by
  obtain ⟨⟨h1, h2, h3⟩, h4, h5, h6⟩ := Valid_iff.1 hv
  have a1 := FloorDiv_bd (x := r.X0) (w := w) (by omega) (by omega) (by omega)
  have a2 := CeilDiv_bd (x := r.X1) (w := w) (by omega) (by omega) (by omega)
  have a3 := FloorDiv_bd (x := r.Y0) (w := h) (by omega) (by omega) (by omega)
  have a4 := CeilDiv_bd (x := r.Y1) (w := h) (by omega) (by omega) (by omega)
  omega
theorem good_rect_Cells_of (h_rect_Valid : G_rect_Valid) (h_rect_Empty : G_rect_Empty) (h_rect_Intersect : G_rect_Intersect) (h_rect_CeilDiv : G_rect_CeilDiv) (h_rect_FloorDiv : G_rect_FloorDiv) : G_rect_Cells :=
  mk_rect_Cells (h_rect_Valid := h_rect_Valid) (h_rect_Empty := h_rect_Empty) (h_rect_Intersect := h_rect_Intersect) (h_rect_CeilDiv := h_rect_CeilDiv) (h_rect_FloorDiv := h_rect_FloorDiv) fun r w h hr => by
    unfold spec_rect_Cells m_rect_Cells cellsL cellsOK
    cases hv : m_rect_Valid r with
    | false => simp
    | true =>
      cases he : m_rect_Empty r with
      | true => simp
      | false =>
        by_cases hw : w < 1
        · simp [hw]
        by_cases hh : h < 1
        · simp [hw, hh]
        obtain ⟨b1, b2, b3, b4⟩ := cells_guard hv hw hh
        simp only [decide_eq_false hw, decide_eq_false hh, cond_false, cond_true, Bool.not_true, Bool.not_false, Bool.true_and, Bool.and_true, beq_self_eq_true]
        cases hbig : decide (IntKind.wrap .i64 (IntKind.wrap .i64 (m_rect_CeilDiv r.X1 w - m_rect_FloorDiv r.X0 w) * IntKind.wrap .i64 (m_rect_CeilDiv r.Y1 h - m_rect_FloorDiv r.Y0 h)) > 65536) with
        | true => rfl
        | false =>
          simp only [cond_false, Bool.not_false, cond_true]
          have hm := mul_small (a := (m_rect_CeilDiv r.Y1 h - m_rect_FloorDiv r.Y0 h).toNat) (b := (m_rect_CeilDiv r.X1 w - m_rect_FloorDiv r.X0 w).toNat) (by omega) (by omega)
          refine (rect_Cells_0 w h (m_rect_FloorDiv r.X0 w) (m_rect_CeilDiv r.X1 w) (m_rect_CeilDiv r.Y1 h) r (fun q => some (V.data SRect.sh q)) b1 (by omega) (by omega) _ (m_rect_FloorDiv r.Y0 h) [] ⟨b3, by simp only [List.length_nil]; omega⟩ (Nat.le_refl _)).trans ?_
          rw [cells_rows]
theorem cellOf_alt (a : SRect) (w h j i : Int) : m_R01_Intersect a ⟨IntKind.wrap .i64 (i * w), IntKind.wrap .i64 (j * h), IntKind.wrap .i64 (IntKind.wrap .i64 (i * w) + w), IntKind.wrap .i64 (IntKind.wrap .i64 (j * h) + h)⟩ = cellOf a w h j i := by
  have e : ∀ (i w : Int), IntKind.wrap .i64 (IntKind.wrap .i64 (i * w) + w) = IntKind.wrap .i64 (IntKind.wrap .i64 (i + 1) * w) := by
    intro i w
    rw [wrap_wrap_add, wrap_mul_wrap, Int.add_mul, Int.one_mul]
  unfold cellOf
  rw [e, e]
  rfl
theorem R01_Cells_2 {R : Type} (w h lf rt bt j : Int) (a : SRect) (e : Rows → Option R) (hrt : rt ≤ 1099511627776) :
    ∀ (n : Nat) (i : Int) (s : Rows), (0 ≤ i ∧ s.length + (rt - i).toNat ≤ 1099511627776) → (rt - i).toNat + 1 ≤ n →
      loop_R01_Cells_2 w h lf rt bt j a n i s (fun _ r => e r) = e ((rngI i rt).foldl (fun s i => s ++ [SRect.row (cellOf a w h j i)]) s) := by
  refine loop_fold (L := fun n i s => loop_R01_Cells_2 w h lf rt bt j a n i s (fun _ r => e r)) (fun i s => 0 ≤ i ∧ s.length + (rt - i).toNat ≤ 1099511627776) ?_ ?_ ?_
  · intro n i s ⟨h0, hl⟩ hi
    show step_R01_Cells_2 w h lf rt bt j a i s (fun y z => loop_R01_Cells_2 w h lf rt bt j a n y z (fun _ r => e r)) _ = _
    unfold step_R01_Cells_2
    have hroom : roomOK (s.length + 1) 32 = true := room_of (by omega)
    simp only [decide_eq_true hi, cond_true, hroom, cellOf_alt]
    rw [w64 (n := i + 1) (by omega) (by omega)]
  · intro i s ⟨h0, hl⟩ hi
    refine ⟨by omega, ?_⟩
    rw [List.length_append]
    show s.length + 1 + _ ≤ _
    omega
  · intro n i s _ hi
    show step_R01_Cells_2 w h lf rt bt j a i s (fun y z => loop_R01_Cells_2 w h lf rt bt j a n y z (fun _ r => e r)) _ = _
    unfold step_R01_Cells_2
    simp only [decide_eq_false hi, cond_false]
theorem R01_Cells_0 {R : Type} (w h lf rt bt : Int) (a : SRect) (e : Rows → Option R) (hlf : 0 ≤ lf) (hrt : rt ≤ 1099511627776) (hbt : bt ≤ 1099511627776) :
    ∀ (n : Nat) (j : Int) (s : Rows), (0 ≤ j ∧ s.length + (bt - j).toNat * (rt - lf).toNat ≤ 1099511627776) → (bt - j).toNat + 1 ≤ n →
      loop_R01_Cells_0 w h lf rt bt a n j s (fun _ r => e r) = e ((rngI j bt).foldl (fun s j => (rngI lf rt).foldl (fun s i => s ++ [SRect.row (cellOf a w h j i)]) s) s) := by
  refine loop_fold (L := fun n j s => loop_R01_Cells_0 w h lf rt bt a n j s (fun _ r => e r)) (fun j s => 0 ≤ j ∧ s.length + (bt - j).toNat * (rt - lf).toNat ≤ 1099511627776) ?_ ?_ ?_
  · intro n j s ⟨h0, hl⟩ hi
    show step_R01_Cells_0 w h lf rt bt a j s (fun y z => loop_R01_Cells_0 w h lf rt bt a n y z (fun _ r => e r)) _ = _
    unfold step_R01_Cells_0
    have hm := nat_mul_step (a := (bt - j).toNat) (b := (bt - (j + 1)).toNat) (m := (rt - lf).toNat) (by omega)
    simp only [decide_eq_true hi, cond_true]
    rw [w64 (n := j + 1) (by omega) (by omega)]
    exact R01_Cells_2 w h lf rt bt j a (fun r => loop_R01_Cells_0 w h lf rt bt a n (j + 1) r (fun _ r => e r)) hrt _ lf s ⟨hlf, by omega⟩ (Nat.le_refl _)
  · intro j s ⟨h0, hl⟩ hi
    have hm := nat_mul_step (a := (bt - j).toNat) (b := (bt - (j + 1)).toNat) (m := (rt - lf).toNat) (by omega)
    refine ⟨by omega, ?_⟩
    rw [foldl_snoc, List.length_append, List.length_map, length_rngI]
    omega
  · intro n j s _ hi
    show step_R01_Cells_0 w h lf rt bt a j s (fun y z => loop_R01_Cells_0 w h lf rt bt a n y z (fun _ r => e r)) _ = _
    unfold step_R01_Cells_0
    simp only [decide_eq_false hi, cond_false]
theorem good_R01_Cells_of (h_R01_Empty : G_R01_Empty) (h_R01_Intersect : G_R01_Intersect) (h_R01_Valid : G_R01_Valid) (h_R01_CeilDiv : G_R01_CeilDiv) (h_R01_FloorDiv : G_R01_FloorDiv) : G_R01_Cells :=
  mk_R01_Cells (h_R01_Empty := h_R01_Empty) (h_R01_Intersect := h_R01_Intersect) (h_R01_Valid := h_R01_Valid) (h_R01_CeilDiv := h_R01_CeilDiv) (h_R01_FloorDiv := h_R01_FloorDiv) fun r w h hr => by
    unfold spec_R01_Cells m_R01_Cells m_rect_Cells cellsL cellsOK
    rw [R01_Valid_eq, R01_Empty_eq, R01_CeilDiv_eq, R01_FloorDiv_eq]
    cases hv : m_rect_Valid r with
    | false => simp
    | true =>
      cases he : m_rect_Empty r with
      | true => simp
      | false =>
        by_cases hw : w < 1
        · simp [hw]
        by_cases hh : h < 1
        · simp [hw, hh]
        obtain ⟨b1, b2, b3, b4⟩ := cells_guard hv hw hh
        simp only [decide_eq_false hw, decide_eq_false hh, cond_false, cond_true, Bool.not_true, Bool.not_false, Bool.true_and, Bool.and_true, beq_self_eq_true]
        cases hbig : decide (IntKind.wrap .i64 (IntKind.wrap .i64 (m_rect_CeilDiv r.X1 w - m_rect_FloorDiv r.X0 w) * IntKind.wrap .i64 (m_rect_CeilDiv r.Y1 h - m_rect_FloorDiv r.Y0 h)) > 65536) with
        | true => rfl
        | false =>
          simp only [cond_false, Bool.not_false, cond_true]
          have hm := mul_small (a := (m_rect_CeilDiv r.Y1 h - m_rect_FloorDiv r.Y0 h).toNat) (b := (m_rect_CeilDiv r.X1 w - m_rect_FloorDiv r.X0 w).toNat) (by omega) (by omega)
          refine (R01_Cells_0 w h (m_rect_FloorDiv r.X0 w) (m_rect_CeilDiv r.X1 w) (m_rect_CeilDiv r.Y1 h) r (fun q => some (V.data SRect.sh q)) b1 (by omega) (by omega) _ (m_rect_FloorDiv r.Y0 h) [] ⟨b3, by simp only [List.length_nil]; omega⟩ (Nat.le_refl _)).trans ?_
          rw [cells_rows]
end Go.Vm
