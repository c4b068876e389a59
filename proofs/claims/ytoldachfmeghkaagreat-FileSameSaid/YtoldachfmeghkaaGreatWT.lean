import Derived.Test.YtoldachfmeghkaaGreatWM
set_option linter.unusedVariables false
set_option linter.unusedSimpArgs false
set_option maxRecDepth 100000
noncomputable section
namespace Go.Vm
open Go.Proofs
theorem tdiv3 {n : Int} (h : 0 ≤ n) : Int.tdiv n 3 = n / 3 := Int.tdiv_eq_ediv_of_nonneg h
theorem pyramid_Count_eq (l : Int) : m_pyramid_Count l = if 0 ≤ l ∧ l ≤ 5 then 3 * l + 1 else 0 := by
  unfold m_pyramid_Count m_pyramid_validLevels
  by_cases h : 0 ≤ l ∧ l ≤ 5
  · have h1 : decide (l ≥ 0) = true := by simp; omega
    have h2 : decide (l ≤ 5) = true := by simp; omega
    rw [if_pos h]
    simp only [h1, h2, Bool.not_true, cond_false, cond_true, Bool.not_false]
    rw [w64 (n := 3 * l) (by omega) (by omega), w64 (by omega) (by omega)]
  · rw [if_neg h]
    by_cases h0 : l ≥ 0
    · have h1 : decide (l ≥ 0) = true := by simp; omega
      have h2 : decide (l ≤ 5) = false := by simp; omega
      simp only [h1, h2, Bool.not_true, cond_false, cond_true, Bool.not_false]
    · have h1 : decide (l ≥ 0) = false := by simp; omega
      simp only [h1, Bool.not_true, cond_false, cond_true, Bool.not_false]
theorem R06_Count_eq (l : Int) : m_R06_Count l = m_pyramid_Count l := by
  rw [pyramid_Count_eq]
  unfold m_R06_Count
  by_cases h0 : l < 0
  · have h1 : decide (l < 0) = true := by simpa using h0
    rw [if_neg (by omega)]
    simp [h1]
  · have h1 : decide (l < 0) = false := by simpa using h0
    by_cases h2 : l > 5
    · have h3 : decide (l > 5) = true := by simpa using h2
      rw [if_neg (by omega)]
      simp [h1, h3]
    · have h3 : decide (l > 5) = false := by simpa using h2
      rw [if_pos (by omega)]
      simp only [h1, h3, cond_false]
      rw [w64 (n := 3 * l) (by omega) (by omega), w64 (by omega) (by omega)]
theorem R06_Place_eq (i l : Int) : m_R06_Place i l = m_pyramid_Place i l := by
  unfold m_R06_Place m_pyramid_Place
  rw [R06_Count_eq]
theorem pyramid_Place_eq (i l : Int) : m_pyramid_Place i l = if 0 ≤ i ∧ i < m_pyramid_Count l then (if i = 0 then (l, 0, true) else (l - (i + 2) / 3 + 1, i - 3 * ((i + 2) / 3) + 3, true)) else (0, 0, false) := by
  unfold m_pyramid_Place
  by_cases h0 : i < 0
  · rw [if_neg (by omega)]; simp [h0]
  · by_cases hc : i ≥ m_pyramid_Count l
    · rw [if_neg (by omega)]; simp [h0, hc]
    · rw [if_pos (by omega)]
      by_cases hz : i = 0
      · subst hz
        have hc2 : ¬ (m_pyramid_Count l ≤ 0) := by omega
        simp [hc2]
      · rw [if_neg hz]
        rw [pyramid_Count_eq] at hc
        have h5 : 0 ≤ l ∧ l ≤ 5 := by
          apply Decidable.byContradiction
          intro hn
          rw [if_neg hn] at hc; omega
        rw [if_pos h5] at hc
        have hc' : ¬ (i ≥ m_pyramid_Count l) := by rw [pyramid_Count_eq, if_pos h5]; omega
        have e1 : (i == 0) = false := by simp [hz]
        simp only [h0, hc', decide_false, e1, cond_false, cond_true, beq_self_eq_true]
        have w1 : IntKind.wrap .i64 (i + 2) = i + 2 := w64 (by omega) (by omega)
        rw [w1, tdiv3 (by omega)]
        have w2 : IntKind.wrap .i64 ((i + 2) / 3) = (i + 2) / 3 := w64 (by omega) (by omega)
        rw [w2]
        rw [w64 (n := l - (i + 2) / 3) (by omega) (by omega), w64 (n := l - (i + 2) / 3 + 1) (by omega) (by omega), w64 (n := 3 * ((i + 2) / 3)) (by omega) (by omega), w64 (n := i - 3 * ((i + 2) / 3)) (by omega) (by omega), w64 (n := i - 3 * ((i + 2) / 3) + 3) (by omega) (by omega)]
theorem place_o {i l : Int} (h : (m_pyramid_Place i l).2.2 = true) : 0 ≤ (m_pyramid_Place i l).2.1 ∧ (m_pyramid_Place i l).2.1 < 4 := by
  rw [pyramid_Place_eq] at h ⊢
  split at h
  · rename_i hh
    rw [if_pos hh]
    split
    · exact ⟨Int.le_refl 0, by show (0 : Int) < 4; decide⟩
    · have := hh
      exact ⟨by simp only []; omega, by simp only []; omega⟩
  · simp at h
theorem pt_R01_CeilDiv (a0 a1 : Int) : pre_R01_CeilDiv a0 a1 = true := by
  repeat' (first | rfl | (refine pre_bif ?_ ?_ <;> intro _))
  all_goals (simp_all [inR] <;> omega)
theorem pt_R01_FloorDiv (a0 a1 : Int) : pre_R01_FloorDiv a0 a1 = true := by
  repeat' (first | rfl | (refine pre_bif ?_ ?_ <;> intro _))
  all_goals (simp_all [inR] <;> omega)
theorem pt_R23_Precinct (a0 : SParams) (a1 : Int) : pre_R23_Precinct a0 a1 = true := by
  repeat' (first | rfl | (refine pre_bif ?_ ?_ <;> intro _))
  all_goals (simp_all [inR] <;> omega)
theorem pt_R06_Band (a0 : SRect) (a1 a2 : Int) : pre_R06_Band a0 a1 a2 = true := by
  repeat' (first | rfl | (refine pre_bif ?_ ?_ <;> intro _))
  rename_i h1 h2 h3 h4
  rw [R06_Place_eq] at h1 h4
  have h5 : (m_pyramid_Place a2 a1).2.2 = true := by simpa using h1
  obtain ⟨h6, h7⟩ := place_o h5
  simp [inR] at h4
  omega
end Go.Vm
