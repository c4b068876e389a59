import Derived.Test.YtplgoojpbnobiaaGreatWT
import Derived.Test.YtplgoojpbnobiaaGreatWG0
import Derived.Test.YtplgoojpbnobiaaGreatWG1
import Derived.Test.YtplgoojpbnobiaaGreatWG2
import Derived.Test.YtplgoojpbnobiaaGreatWG3
set_option linter.unusedVariables false
set_option linter.unusedSimpArgs false
set_option maxRecDepth 100000
noncomputable section
namespace Go.Vm
open Go.Proofs
theorem room_of {n b : Nat} (h : n * b ≤ 140737488355328) : roomOK n b = true := Nat.ble_eq_true_of_le h
theorem inR_of {i : Int} {n : Nat} (h0 : 0 ≤ i) (h1 : i < (n : Int)) : inR i n = true := by simp [inR, h0, h1]
theorem inB_t {lo hi x : Int} (h : inB lo hi x = true) : (bif decide (x < lo) then true else decide (x > hi)) = false := by
  rw [inB, Bool.not_eq_true'] at h; exact h
theorem inB_f {lo hi x : Int} (h : inB lo hi x = false) : (bif decide (x < lo) then true else decide (x > hi)) = true := by
  rw [inB, Bool.not_eq_false'] at h; exact h
theorem inB_iff {lo hi x : Int} : inB lo hi x = true ↔ lo ≤ x ∧ x ≤ hi := by
  unfold inB
  by_cases h1 : x < lo
  · simp [h1]; omega
  · simp [h1]; omega
theorem R01_Valid_eq : m_R01_Valid = m_rect_Valid := rfl
theorem R01_Empty_eq : m_R01_Empty = m_rect_Empty := rfl
theorem R01_Area_eq : m_R01_Area = m_rect_Area := rfl
theorem R01_Reduce_eq : m_R01_Reduce = m_rect_Reduce := rfl
theorem R23_in_eq (x lo hi : Int) : m_R23_in x lo hi = inB lo hi x := by
  unfold m_R23_in inB
  by_cases h1 : lo ≤ x
  · by_cases h2 : x ≤ hi
    · have h3 : ¬ x < lo := by omega
      have h4 : ¬ x > hi := by omega
      simp [h1, h2, h3, h4]
    · have h3 : ¬ x < lo := by omega
      have h4 : x > hi := by omega
      simp [h1, h2, h3, h4]
  · have h3 : x < lo := by omega
    simp [h1, h3]
theorem loop_allB {R : Type} {a b : Int} {L : Nat → Int → Option R} {ok : Int → Bool} {e x : Option R}
    (hs : ∀ n i, a ≤ i → L (n + 1) i = bif decide (i < b) then (bif ok i then L n (i + 1) else x) else e) (n : Nat) (hn : (b - a).toNat + 1 ≤ n) : L n a = bif (rngI a b).all ok then e else x :=
  loop_all (fun n i h0 h1 hok => by rw [hs n i h0, decide_eq_true h1, hok]; rfl) (fun n i h0 h1 hok => by rw [hs n i h0, decide_eq_true h1, hok]; rfl) (fun n i h0 h1 => by rw [hs n i h0, decide_eq_false h1]; rfl) n hn
theorem loop_foldB {S R : Type} {b : Int} {L : Nat → Int → S → Option R} {g : S → Int → S} {e : S → Option R} (I : Int → S → Prop)
    (hs : ∀ n i s, I i s → L (n + 1) i s = bif decide (i < b) then L n (i + 1) (g s i) else e s)
    (hI : ∀ i s, I i s → i < b → I (i + 1) (g s i)) (n : Nat) (i : Int) (s : S) (h : I i s) (hn : (b - i).toNat + 1 ≤ n) : L n i s = e ((rngI i b).foldl g s) :=
  loop_fold I (fun n i s h0 h1 => by rw [hs n i s h0, decide_eq_true h1]; rfl) hI (fun n i s h0 h1 => by rw [hs n i s h0, decide_eq_false h1]; rfl) n i s h hn
theorem within1 (lo hi a : Int) (k : IntKind) : m_params_within lo hi [[V.int k a]] = inB lo hi a := by
  show (inB lo hi a && true) = _
  rw [Bool.and_true]
theorem within2 (lo hi a b : Int) (k : IntKind) : m_params_within lo hi [[V.int k a], [V.int k b]] = (inB lo hi a && inB lo hi b) := by
  show (inB lo hi a && (inB lo hi b && true)) = _
  rw [Bool.and_true]
theorem pwithin1 (lo hi a : Int) (k : IntKind) : pre_params_within lo hi [[V.int k a]] = true := rfl
theorem pwithin2 (lo hi a b : Int) (k : IntKind) : pre_params_within lo hi [[V.int k a], [V.int k b]] = true := rfl
theorem not_b (b : Bool) : ((!b) == false) = b := by cases b <;> rfl
theorem b_false (b : Bool) : (b == false) = !b := by cases b <;> rfl
end Go.Vm
