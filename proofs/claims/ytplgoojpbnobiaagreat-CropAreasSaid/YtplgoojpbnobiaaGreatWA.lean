import Derived.Test.YtplgoojpbnobiaaGreatWT
import Derived.Test.YtplgoojpbnobiaaGreatWG0
import Derived.Test.YtplgoojpbnobiaaGreatWG1
import Derived.Test.YtplgoojpbnobiaaGreatWG2
import Derived.Test.YtplgoojpbnobiaaGreatWG3
set_option linter.unusedVariables false
set_option linter.unusedSimpArgs false
set_option maxRecDepth 100000
noncomputable section
namespace Go.Vm
open Go.Proofs
theorem room_of {n b : Nat} (h : n * b ≤ 140737488355328) : roomOK n b = true := Nat.ble_eq_true_of_le h
theorem inR_of {i : Int} {n : Nat} (h0 : 0 ≤ i) (h1 : i < (n : Int)) : inR i n = true := by simp [inR, h0, h1]
theorem inB_t {lo hi x : Int} (h : inB lo hi x = true) : (bif decide (x < lo) then true else decide (x > hi)) = false := by
  rw [inB, Bool.not_eq_true'] at h; exact h
theorem inB_f {lo hi x : Int} (h : inB lo hi x = false) : (bif decide (x < lo) then true else decide (x > hi)) = true := by
  rw [inB, Bool.not_eq_false'] at h; exact h
theorem inB_iff {lo hi x : Int} : inB lo hi x = true ↔ lo ≤ x ∧ x ≤ hi := by
  unfold inB
  by_cases h1 : x < lo
  · simp [h1]; omega
  · simp [h1]; omega
theorem Valid_iff {r : SRect} : m_rect_Valid r = true ↔ (0 ≤ r.X0 ∧ r.X0 ≤ r.X1 ∧ r.X1 ≤ 4096) ∧ (0 ≤ r.Y0 ∧ r.Y0 ≤ r.Y1 ∧ r.Y1 ≤ 4096) := by
  have e : ∀ (a b : Bool), (bif a then b else false) = (a && b) := by intro a b; cases a <;> rfl
  unfold m_rect_Valid
  simp only [e, Bool.and_eq_true, decide_eq_true_eq]
  omega
theorem Empty_iff {r : SRect} : m_rect_Empty r = true ↔ r.X1 ≤ r.X0 ∨ r.Y1 ≤ r.Y0 := by
  unfold m_rect_Empty
  by_cases h : r.X0 ≥ r.X1
  · simp [h]
  · simp [h]
theorem Empty_f {r : SRect} : m_rect_Empty r = false ↔ r.X0 < r.X1 ∧ r.Y0 < r.Y1 := by
  rw [← Bool.not_eq_true, Empty_iff]; omega
theorem FloorDiv_eq {x w : Int} (hx : 0 ≤ x) (hx2 : x ≤ 4611686018427387904) (hw : 1 ≤ w) : m_rect_FloorDiv x w = x / w := by
  have h1 : decide (w < 1) = false := by simp; omega
  have h2 : (w != 0) = true := by simp; omega
  have hq0 : 0 ≤ x / w := Int.ediv_nonneg hx (by omega)
  have hq1 : x / w ≤ x := Int.ediv_le_self _ hx
  have h3 : decide (Int.tmod x w < 0) = false := by
    rw [Int.tmod_eq_emod_of_nonneg hx]
    have := Int.emod_nonneg x (show w ≠ 0 by omega)
    simp; omega
  unfold m_rect_FloorDiv
  simp only [h1, h2, h3, cond_false, cond_true]
  rw [Int.tdiv_eq_ediv_of_nonneg hx, w64 (by omega) (by omega)]
theorem CeilDiv_eq {x w : Int} (hx : 0 ≤ x) (hx2 : x ≤ 4611686018427387904) (hw : 1 ≤ w) : m_rect_CeilDiv x w = bif decide (x % w > 0) then x / w + 1 else x / w := by
  have h1 : decide (w < 1) = false := by simp; omega
  have h2 : (w != 0) = true := by simp; omega
  have hq0 : 0 ≤ x / w := Int.ediv_nonneg hx (by omega)
  have hq1 : x / w ≤ x := Int.ediv_le_self _ hx
  unfold m_rect_CeilDiv
  simp only [h1, h2, cond_false, cond_true]
  rw [Int.tmod_eq_emod_of_nonneg hx, Int.tdiv_eq_ediv_of_nonneg hx, w64 (n := x / w) (by omega) (by omega), w64 (n := x / w + 1) (by omega) (by omega)]
theorem FloorDiv_bd {x w : Int} (hx : 0 ≤ x) (hx2 : x ≤ 4096) (hw : 1 ≤ w) : 0 ≤ m_rect_FloorDiv x w ∧ m_rect_FloorDiv x w ≤ x := by
  rw [FloorDiv_eq hx (by omega) hw]
  exact ⟨Int.ediv_nonneg hx (by omega), Int.ediv_le_self _ hx⟩
theorem CeilDiv_bd {x w : Int} (hx : 0 ≤ x) (hx2 : x ≤ 4096) (hw : 1 ≤ w) : 0 ≤ m_rect_CeilDiv x w ∧ m_rect_CeilDiv x w ≤ x := by
  rw [CeilDiv_eq hx (by omega) hw]
  have hq0 : 0 ≤ x / w := Int.ediv_nonneg hx (by omega)
  have hm := Int.mul_ediv_add_emod x w
  have hq1 : x / w ≤ x := Int.ediv_le_self _ hx
  by_cases h : x % w > 0
  · simp only [decide_eq_true h, cond_true]
    refine ⟨by omega, ?_⟩
    have : x / w ≤ w * (x / w) := by
      have := Int.mul_le_mul_of_nonneg_right hw hq0
      omega
    omega
  · simp only [decide_eq_false h, cond_false]; omega
theorem Intersect_eq (a b : SRect) : m_rect_Intersect a b = if max a.X0 b.X0 < min a.X1 b.X1 ∧ max a.Y0 b.Y0 < min a.Y1 b.Y1 then ⟨max a.X0 b.X0, max a.Y0 b.Y0, min a.X1 b.X1, min a.Y1 b.Y1⟩ else ⟨0, 0, 0, 0⟩ := by
  have e1 : (bif decide (b.X0 > a.X0) then b.X0 else a.X0) = max a.X0 b.X0 := by
    by_cases h : b.X0 > a.X0
    · simp only [decide_eq_true h, cond_true]; omega
    · simp only [decide_eq_false h, cond_false]; omega
  have e2 : (bif decide (b.Y0 > a.Y0) then b.Y0 else a.Y0) = max a.Y0 b.Y0 := by
    by_cases h : b.Y0 > a.Y0
    · simp only [decide_eq_true h, cond_true]; omega
    · simp only [decide_eq_false h, cond_false]; omega
  have e3 : (bif decide (b.X1 < a.X1) then b.X1 else a.X1) = min a.X1 b.X1 := by
    by_cases h : b.X1 < a.X1
    · simp only [decide_eq_true h, cond_true]; omega
    · simp only [decide_eq_false h, cond_false]; omega
  have e4 : (bif decide (b.Y1 < a.Y1) then b.Y1 else a.Y1) = min a.Y1 b.Y1 := by
    by_cases h : b.Y1 < a.Y1
    · simp only [decide_eq_true h, cond_true]; omega
    · simp only [decide_eq_false h, cond_false]; omega
  unfold m_rect_Intersect
  simp only [e1, e2, e3, e4]
  cases he : m_rect_Empty ⟨max a.X0 b.X0, max a.Y0 b.Y0, min a.X1 b.X1, min a.Y1 b.Y1⟩ with
  | true =>
    have := Empty_iff.1 he
    simp only at this
    rw [if_neg (by omega)]; rfl
  | false =>
    have := Empty_f.1 he
    simp only at this
    rw [if_pos (by omega)]; rfl
theorem R01_CeilDiv_eq : m_R01_CeilDiv = m_rect_CeilDiv := rfl
theorem R01_FloorDiv_eq : m_R01_FloorDiv = m_rect_FloorDiv := rfl
theorem R01_Valid_eq : m_R01_Valid = m_rect_Valid := rfl
theorem R01_Empty_eq : m_R01_Empty = m_rect_Empty := rfl
theorem R01_Area_eq : m_R01_Area = m_rect_Area := rfl
theorem R01_Intersect_eq : m_R01_Intersect = m_rect_Intersect := rfl
theorem R01_Reduce_eq : m_R01_Reduce = m_rect_Reduce := rfl
theorem R23_in_eq (x lo hi : Int) : m_R23_in x lo hi = inB lo hi x := by
  unfold m_R23_in inB
  by_cases h1 : lo ≤ x
  · by_cases h2 : x ≤ hi
    · have h3 : ¬ x < lo := by omega
      have h4 : ¬ x > hi := by omega
      simp [h1, h2, h3, h4]
    · have h3 : ¬ x < lo := by omega
      have h4 : x > hi := by omega
      simp [h1, h2, h3, h4]
  · have h3 : x < lo := by omega
    simp [h1, h3]
theorem loop_allB {R : Type} {a b : Int} {L : Nat → Int → Option R} {ok : Int → Bool} {e x : Option R}
    (hs : ∀ n i, a ≤ i → L (n + 1) i = bif decide (i < b) then (bif ok i then L n (i + 1) else x) else e) (n : Nat) (hn : (b - a).toNat + 1 ≤ n) : L n a = bif (rngI a b).all ok then e else x :=
  loop_all (fun n i h0 h1 hok => by rw [hs n i h0, decide_eq_true h1, hok]; rfl) (fun n i h0 h1 hok => by rw [hs n i h0, decide_eq_true h1, hok]; rfl) (fun n i h0 h1 => by rw [hs n i h0, decide_eq_false h1]; rfl) n hn
theorem loop_foldB {S R : Type} {b : Int} {L : Nat → Int → S → Option R} {g : S → Int → S} {e : S → Option R} (I : Int → S → Prop)
    (hs : ∀ n i s, I i s → L (n + 1) i s = bif decide (i < b) then L n (i + 1) (g s i) else e s)
    (hI : ∀ i s, I i s → i < b → I (i + 1) (g s i)) (n : Nat) (i : Int) (s : S) (h : I i s) (hn : (b - i).toNat + 1 ≤ n) : L n i s = e ((rngI i b).foldl g s) :=
  loop_fold I (fun n i s h0 h1 => by rw [hs n i s h0, decide_eq_true h1]; rfl) hI (fun n i s h0 h1 => by rw [hs n i s h0, decide_eq_false h1]; rfl) n i s h hn
theorem within1 (lo hi a : Int) (k : IntKind) : m_params_within lo hi [[V.int k a]] = inB lo hi a := by
  show (inB lo hi a && true) = _
  rw [Bool.and_true]
theorem within2 (lo hi a b : Int) (k : IntKind) : m_params_within lo hi [[V.int k a], [V.int k b]] = (inB lo hi a && inB lo hi b) := by
  show (inB lo hi a && (inB lo hi b && true)) = _
  rw [Bool.and_true]
theorem pwithin1 (lo hi a : Int) (k : IntKind) : pre_params_within lo hi [[V.int k a]] = true := rfl
theorem pwithin2 (lo hi a b : Int) (k : IntKind) : pre_params_within lo hi [[V.int k a], [V.int k b]] = true := rfl
theorem not_b (b : Bool) : ((!b) == false) = b := by cases b <;> rfl
theorem b_false (b : Bool) : (b == false) = !b := by cases b <;> rfl
end Go.Vm
