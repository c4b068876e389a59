import Derived.Test.YtoldachfmeghkaaGreatWT
import Derived.Test.YtoldachfmeghkaaGreatWA
set_option linter.unusedVariables false
set_option linter.unusedSimpArgs false
set_option maxRecDepth 100000
noncomputable section
namespace Go.Vm
open Go.Proofs
theorem validLevels_iff {l : Int} : m_pyramid_validLevels l = true ↔ 0 ≤ l ∧ l ≤ 5 := by
  unfold m_pyramid_validLevels
  by_cases h : l ≥ 0
  · simp only [decide_eq_true h, cond_true, decide_eq_true_eq]; omega
  · simp only [decide_eq_false h, cond_false]; constructor
    · intro h; cases h
    · intro h2; omega
theorem validLevels_f {l : Int} : m_pyramid_validLevels l = false ↔ ¬ (0 ≤ l ∧ l ≤ 5) := by rw [← Bool.not_eq_true, validLevels_iff]
theorem count_zero (l : Int) : (m_R06_Count l == 0) = !m_pyramid_validLevels l := by
  rw [R06_Count_eq, pyramid_Count_eq]
  cases h : m_pyramid_validLevels l with
  | true =>
    have := validLevels_iff.1 h
    rw [if_pos this]
    exact beq_eq_false_iff_ne.2 (by omega)
  | false =>
    have := validLevels_f.1 h
    rw [if_neg this]; rfl
theorem pow_small {n : Nat} (h : n ≤ 12) : (1 : Int) ≤ 2 ^ n ∧ (2 : Int) ^ n ≤ 4096 := by
  have : n = 0 ∨ n = 1 ∨ n = 2 ∨ n = 3 ∨ n = 4 ∨ n = 5 ∨ n = 6 ∨ n = 7 ∨ n = 8 ∨ n = 9 ∨ n = 10 ∨ n = 11 ∨ n = 12 := by omega
  rcases this with rfl | rfl | rfl | rfl | rfl | rfl | rfl | rfl | rfl | rfl | rfl | rfl | rfl <;> decide
theorem shl_one {a : Int} (h0 : 0 ≤ a) (h1 : a ≤ 12) : IntKind.wrap .i64 (1 * 2 ^ (min (Int.toNat (IntKind.wrap .u64 a)) 64)) = 2 ^ a.toNat := by
  rw [wu64 h0 (by omega), Nat.min_eq_left (by omega), Int.one_mul]
  have := pow_small (n := a.toNat) (by omega)
  exact w64 (by omega) (by omega)
theorem shl_one' {a : Int} (h0 : 0 ≤ a) (h1 : a ≤ 12) : IntKind.wrap .i64 (1 * 2 ^ (min (Int.toNat a) 64)) = 2 ^ a.toNat := by
  rw [Nat.min_eq_left (by omega), Int.one_mul]
  have := pow_small (n := a.toNat) (by omega)
  exact w64 (by omega) (by omega)
theorem Resolution_eq (r : SRect) (l i : Int) : m_pyramid_Resolution r l i = if (0 ≤ l ∧ l ≤ 5) ∧ 0 ≤ i ∧ i ≤ l then m_rect_Reduce r (2 ^ (l - i).toNat) (2 ^ (l - i).toNat) else ⟨0, 0, 0, 0⟩ := by
  unfold m_pyramid_Resolution
  cases h : m_pyramid_validLevels l with
  | false =>
    have := validLevels_f.1 h
    rw [if_neg (by omega)]; rfl
  | true =>
    have hl := validLevels_iff.1 h
    by_cases h1 : i < 0
    · rw [if_neg (by omega)]; simp [h1]
    · by_cases h2 : i > l
      · rw [if_neg (by omega)]; simp [h1, h2]
      · rw [if_pos (by omega)]
        simp only [decide_eq_false h1, decide_eq_false h2, Bool.not_true, cond_false, wrapu_nonneg, decide_true, cond_true]
        rw [w64 (n := l - i) (by omega) (by omega), shl_one (by omega) (by omega)]
theorem half_low {x : Int} (h0 : 0 ≤ x) (h1 : x ≤ 4096) : IntKind.wrap .i64 (Int.tdiv (IntKind.wrap .i64 (x + 1)) 2) = (x + 1) / 2 := by
  rw [w64 (n := x + 1) (by omega) (by omega), Int.tdiv_eq_ediv_of_nonneg (by omega), w64 (by omega) (by omega)]
theorem half_high {x : Int} (h0 : 0 ≤ x) (h1 : x ≤ 4096) : IntKind.wrap .i64 (Int.tdiv (IntKind.wrap .i64 (x + 0)) 2) = x / 2 := by
  rw [w64 (n := x + 0) (by omega) (by omega), Int.add_zero, Int.tdiv_eq_ediv_of_nonneg (by omega), w64 (by omega) (by omega)]
theorem half_high' {x : Int} (h0 : 0 ≤ x) (h1 : x ≤ 4096) : IntKind.wrap .i64 (Int.tdiv x 2) = x / 2 := by
  rw [Int.tdiv_eq_ediv_of_nonneg (by omega), w64 (by omega) (by omega)]
def bandsOf (r : SRect) : SA4_Rect := ⟨⟨(r.X0 + 1) / 2, (r.Y0 + 1) / 2, (r.X1 + 1) / 2, (r.Y1 + 1) / 2⟩, ⟨r.X0 / 2, (r.Y0 + 1) / 2, r.X1 / 2, (r.Y1 + 1) / 2⟩, ⟨(r.X0 + 1) / 2, r.Y0 / 2, (r.X1 + 1) / 2, r.Y1 / 2⟩, ⟨r.X0 / 2, r.Y0 / 2, r.X1 / 2, r.Y1 / 2⟩⟩
theorem dwt_Bands_eq {r : SRect} (hv : m_rect_Valid r = true) : m_dwt_Bands r = bandsOf r := by
  obtain ⟨⟨h1, h2, h3⟩, h4, h5, h6⟩ := Valid_iff.1 hv
  have e0 : IntKind.wrap .i64 (1 - intBits .and .i64 0 1) = 1 := by decide
  have e1 : IntKind.wrap .i64 (1 - intBits .and .i64 1 1) = 0 := by decide
  have e2 : IntKind.wrap .i64 (1 - intBits .and .i64 2 1) = 1 := by decide
  have e3 : IntKind.wrap .i64 (1 - intBits .and .i64 3 1) = 0 := by decide
  unfold m_dwt_Bands bandsOf
  simp only [hv, Bool.not_true, cond_false, e0, e1, e2, e3]
  rw [half_low h1 (by omega), half_low h4 (by omega), half_low (x := r.X1) (by omega) h3, half_low (x := r.Y1) (by omega) h6, half_high h1 (by omega), half_high h4 (by omega), half_high (x := r.X1) (by omega) h3, half_high (x := r.Y1) (by omega) h6]
theorem R05_Bands_eq (r : SRect) : m_R05_Bands r = m_dwt_Bands r := by
  cases hv : m_rect_Valid r with
  | false =>
    unfold m_R05_Bands m_dwt_Bands
    rw [R01_Valid_eq]
    simp only [hv, Bool.not_false, cond_true]
  | true =>
    rw [dwt_Bands_eq hv]
    obtain ⟨⟨h1, h2, h3⟩, h4, h5, h6⟩ := Valid_iff.1 hv
    unfold m_R05_Bands bandsOf
    rw [R01_Valid_eq]
    simp only [hv, Bool.not_true, cond_false]
    unfold m_R05_half
    simp only [cond_false, cond_true]
    rw [half_low h1 (by omega), half_low h4 (by omega), half_low (x := r.X1) (by omega) h3, half_low (x := r.Y1) (by omega) h6, half_high' h1 (by omega), half_high' h4 (by omega), half_high' (x := r.X1) (by omega) h3, half_high' (x := r.Y1) (by omega) h6]
theorem R06_Band_eq (r : SRect) (l i : Int) : m_R06_Band r l i = m_pyramid_Band r l i := by
  unfold m_R06_Band m_pyramid_Band m_R06_Resolution
  rw [R06_Place_eq, R01_Valid_eq]
  simp only [R05_Bands_eq]
end Go.Vm
