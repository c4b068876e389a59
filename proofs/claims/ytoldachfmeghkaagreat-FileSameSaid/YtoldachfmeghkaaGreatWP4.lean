import Derived.Test.YtoldachfmeghkaaGreatWB
import Derived.Test.YtoldachfmeghkaaGreatWP3
set_option linter.unusedVariables false
set_option linter.unusedSimpArgs false
set_option maxRecDepth 100000
noncomputable section
namespace Go.Vm
open Go.Proofs
theorem R06_res_loop {R : Type} (l i0 : Int) (a : SRect) (e : Int → Option R) (h0 : 0 ≤ i0) (hl : l ≤ 5) : ∀ (k : Nat) (i : Int) (n : Nat), i0 ≤ i → i ≤ l → (l - i).toNat = k → k + 1 ≤ n →
    loop_R06_Resolution_0 l a 0 0 0 0 n (2 ^ (i - i0).toNat) i (fun s _ => e s) = e (2 ^ (l - i0).toNat)
  | k, i, 0, _, _, _, hn => by omega
  | 0, i, n + 1, h1, h2, h3, hn => by
    have : i = l := by omega
    subst this
    show step_R06_Resolution_0 i a 0 0 0 0 (2 ^ (i - i0).toNat) i _ _ = _
    unfold step_R06_Resolution_0
    rw [decide_eq_false (Int.lt_irrefl i)]
    rfl
  | k + 1, i, n + 1, h1, h2, h3, hn => by
    have hi : i < l := by omega
    show step_R06_Resolution_0 l a 0 0 0 0 (2 ^ (i - i0).toNat) i (fun y z => loop_R06_Resolution_0 l a 0 0 0 0 n y z (fun s _ => e s)) _ = _
    unfold step_R06_Resolution_0
    have hp := pow_small (n := (i - i0).toNat) (by omega)
    have e1 : (i + 1 - i0).toNat = (i - i0).toNat + 1 := by omega
    have e2 : IntKind.wrap .i64 (2 * 2 ^ (i - i0).toNat) = 2 ^ (i + 1 - i0).toNat := by
      rw [w64 (by omega) (by omega), e1, Int.pow_succ, Int.mul_comm]
    simp only [decide_eq_true hi, cond_true]
    rw [e2, w64 (n := i + 1) (by omega) (by omega)]
    exact R06_res_loop l i0 a e h0 hl k (i + 1) n (by omega) (by omega) (by omega) (by omega)
theorem good_R06_Resolution_of (h1 : G_R01_Reduce) (h2 : G_R06_Count) : G_R06_Resolution := mk_R06_Resolution (h_R01_Reduce := h1) (h_R06_Count := h2) fun r l i _ => by
  unfold spec_R06_Resolution m_R06_Resolution
  rw [R01_Reduce_eq, Resolution_eq]
  simp only [count_zero]
  cases hv : m_pyramid_validLevels l with
  | false =>
    have := validLevels_f.1 hv
    rw [if_neg (by omega)]; rfl
  | true =>
    have hl := validLevels_iff.1 hv
    by_cases d1 : i < 0
    · rw [if_neg (by omega)]
      simp only [decide_eq_true d1, Bool.not_true, cond_false, cond_true]; rfl
    · by_cases d2 : i > l
      · rw [if_neg (by omega)]
        simp only [decide_eq_false d1, decide_eq_true d2, Bool.not_true, cond_false, cond_true]; rfl
      · rw [if_pos (by omega)]
        simp only [decide_eq_false d1, decide_eq_false d2, Bool.not_true, cond_false, cond_true]
        have := R06_res_loop l i r (fun s => some (SRect.v (m_rect_Reduce r s s))) (by omega) hl.2 (l - i).toNat i ((l - i).toNat + 1) (Int.le_refl i) (by omega) rfl (Nat.le_refl _)
        have e0 : (2 : Int) ^ (i - i).toNat = 1 := by rw [Int.sub_self]; rfl
        rw [e0] at this
        exact this
end Go.Vm
