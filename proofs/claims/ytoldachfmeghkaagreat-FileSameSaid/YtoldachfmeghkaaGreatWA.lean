import Derived.Test.YtoldachfmeghkaaGreatWT
import Derived.Test.YtoldachfmeghkaaGreatWG0
import Derived.Test.YtoldachfmeghkaaGreatWG1
import Derived.Test.YtoldachfmeghkaaGreatWG2
import Derived.Test.YtoldachfmeghkaaGreatWG3
import Derived.Test.YtoldachfmeghkaaGreatWG4
import Derived.Test.YtoldachfmeghkaaGreatWG5
import Derived.Test.YtoldachfmeghkaaGreatWG6
import Derived.Test.YtoldachfmeghkaaGreatWG7
set_option linter.unusedVariables false
set_option linter.unusedSimpArgs false
set_option maxRecDepth 100000
noncomputable section
namespace Go.Vm
open Go.Proofs
theorem room_of {n b : Nat} (h : n * b ≤ 140737488355328) : roomOK n b = true := Nat.ble_eq_true_of_le h
theorem inR_of {i : Int} {n : Nat} (h0 : 0 ≤ i) (h1 : i < (n : Int)) : inR i n = true := by simp [inR, h0, h1]
theorem inB_iff {lo hi x : Int} : inB lo hi x = true ↔ lo ≤ x ∧ x ≤ hi := by
  unfold inB
  by_cases h1 : x < lo
  · simp [h1]; omega
  · simp [h1]; omega
theorem Valid_iff {r : SRect} : m_rect_Valid r = true ↔ (0 ≤ r.X0 ∧ r.X0 ≤ r.X1 ∧ r.X1 ≤ 4096) ∧ (0 ≤ r.Y0 ∧ r.Y0 ≤ r.Y1 ∧ r.Y1 ≤ 4096) := by
  have e : ∀ (a b : Bool), (bif a then b else false) = (a && b) := by intro a b; cases a <;> rfl
  unfold m_rect_Valid
  simp only [e, Bool.and_eq_true, decide_eq_true_eq]
  omega
theorem FloorDiv_eq {x w : Int} (hx : 0 ≤ x) (hx2 : x ≤ 4611686018427387904) (hw : 1 ≤ w) : m_rect_FloorDiv x w = x / w := by
  have h1 : decide (w < 1) = false := by simp; omega
  have h2 : (w != 0) = true := by simp; omega
  have hq0 : 0 ≤ x / w := Int.ediv_nonneg hx (by omega)
  have hq1 : x / w ≤ x := Int.ediv_le_self _ hx
  have h3 : decide (Int.tmod x w < 0) = false := by
    rw [Int.tmod_eq_emod_of_nonneg hx]
    have := Int.emod_nonneg x (show w ≠ 0 by omega)
    simp; omega
  unfold m_rect_FloorDiv
  simp only [h1, h2, h3, cond_false, cond_true]
  rw [Int.tdiv_eq_ediv_of_nonneg hx, w64 (by omega) (by omega)]
theorem CeilDiv_eq {x w : Int} (hx : 0 ≤ x) (hx2 : x ≤ 4611686018427387904) (hw : 1 ≤ w) : m_rect_CeilDiv x w = bif decide (x % w > 0) then x / w + 1 else x / w := by
  have h1 : decide (w < 1) = false := by simp; omega
  have h2 : (w != 0) = true := by simp; omega
  have hq0 : 0 ≤ x / w := Int.ediv_nonneg hx (by omega)
  have hq1 : x / w ≤ x := Int.ediv_le_self _ hx
  unfold m_rect_CeilDiv
  simp only [h1, h2, cond_false, cond_true]
  rw [Int.tmod_eq_emod_of_nonneg hx, Int.tdiv_eq_ediv_of_nonneg hx, w64 (n := x / w) (by omega) (by omega), w64 (n := x / w + 1) (by omega) (by omega)]
theorem FloorDiv_bd {x w : Int} (hx : 0 ≤ x) (hx2 : x ≤ 4096) (hw : 1 ≤ w) : 0 ≤ m_rect_FloorDiv x w ∧ m_rect_FloorDiv x w ≤ x := by
  rw [FloorDiv_eq hx (by omega) hw]
  exact ⟨Int.ediv_nonneg hx (by omega), Int.ediv_le_self _ hx⟩
theorem CeilDiv_bd {x w : Int} (hx : 0 ≤ x) (hx2 : x ≤ 4096) (hw : 1 ≤ w) : 0 ≤ m_rect_CeilDiv x w ∧ m_rect_CeilDiv x w ≤ x := by
  rw [CeilDiv_eq hx (by omega) hw]
  have hq0 : 0 ≤ x / w := Int.ediv_nonneg hx (by omega)
  have hm := Int.mul_ediv_add_emod x w
  have hq1 : x / w ≤ x := Int.ediv_le_self _ hx
  by_cases h : x % w > 0
  · simp only [decide_eq_true h, cond_true]
    refine ⟨by omega, ?_⟩
    have : x / w ≤ w * (x / w) := by
      have := Int.mul_le_mul_of_nonneg_right hw hq0
      omega
    omega
  · simp only [decide_eq_false h, cond_false]; omega
theorem R01_CeilDiv_eq : m_R01_CeilDiv = m_rect_CeilDiv := rfl
theorem R01_FloorDiv_eq : m_R01_FloorDiv = m_rect_FloorDiv := rfl
theorem R01_Valid_eq : m_R01_Valid = m_rect_Valid := rfl
theorem R01_Empty_eq : m_R01_Empty = m_rect_Empty := rfl
theorem R01_Area_eq : m_R01_Area = m_rect_Area := rfl
theorem R01_Reduce_eq : m_R01_Reduce = m_rect_Reduce := rfl
theorem R23_Precinct_eq : m_R23_Precinct = m_params_Precinct := rfl
theorem R23_in_eq (x lo hi : Int) : m_R23_in x lo hi = inB lo hi x := by
  unfold m_R23_in inB
  by_cases h1 : lo ≤ x
  · by_cases h2 : x ≤ hi
    · have h3 : ¬ x < lo := by omega
      have h4 : ¬ x > hi := by omega
      simp [h1, h2, h3, h4]
    · have h3 : ¬ x < lo := by omega
      have h4 : x > hi := by omega
      simp [h1, h2, h3, h4]
  · have h3 : x < lo := by omega
    simp [h1, h3]
theorem loop_allB {R : Type} {a b : Int} {L : Nat → Int → Option R} {ok : Int → Bool} {e x : Option R}
    (hs : ∀ n i, a ≤ i → L (n + 1) i = bif decide (i < b) then (bif ok i then L n (i + 1) else x) else e) (n : Nat) (hn : (b - a).toNat + 1 ≤ n) : L n a = bif (rngI a b).all ok then e else x :=
  loop_all (fun n i h0 h1 hok => by rw [hs n i h0, decide_eq_true h1, hok]; rfl) (fun n i h0 h1 hok => by rw [hs n i h0, decide_eq_true h1, hok]; rfl) (fun n i h0 h1 => by rw [hs n i h0, decide_eq_false h1]; rfl) n hn
theorem loop_foldB {S R : Type} {b : Int} {L : Nat → Int → S → Option R} {g : S → Int → S} {e : S → Option R} (I : Int → S → Prop)
    (hs : ∀ n i s, I i s → L (n + 1) i s = bif decide (i < b) then L n (i + 1) (g s i) else e s)
    (hI : ∀ i s, I i s → i < b → I (i + 1) (g s i)) (n : Nat) (i : Int) (s : S) (h : I i s) (hn : (b - i).toNat + 1 ≤ n) : L n i s = e ((rngI i b).foldl g s) :=
  loop_fold I (fun n i s h0 h1 => by rw [hs n i s h0, decide_eq_true h1]; rfl) hI (fun n i s h0 h1 => by rw [hs n i s h0, decide_eq_false h1]; rfl) n i s h hn
theorem not_b (b : Bool) : ((!b) == false) = b := by cases b <;> rfl
theorem b_false (b : Bool) : (b == false) = !b := by cases b <;> rfl
theorem b_true (b : Bool) : (b == true) = b := by cases b <;> rfl
end Go.Vm
