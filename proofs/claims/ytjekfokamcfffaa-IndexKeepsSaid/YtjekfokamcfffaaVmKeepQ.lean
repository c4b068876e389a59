/- IndexKeeps: the contracts, and the law. -/
import Derived.Test.YtjekfokamcfffaaVmKeepP
import Derived.Test.YtjekfokamcfffaaRows
set_option linter.unusedVariables false
set_option linter.unusedSimpArgs false
namespace Go.Vm
open Go.Proofs

theorem keep0 {rb : List (List V)} {rs : List (List V)} : List.replicate rb.length [V.int .u8 0] = keepM rb (rs.take 0) := by
  apply List.ext_getElem?
  intro j
  by_cases hj : j < rb.length
  · rw [keepM_get hj]; simp [hj]
  · rw [List.getElem?_eq_none (by simpa using hj), List.getElem?_eq_none (by rw [keepM_len]; omega)]

theorem spec9_val {rb rs : List (List V)} (h5 : rb.length ≤ 5000) (h4 : rs.length ≤ 40) : spec9 rb rs some = some (.data [.int .u8] (keepM rb rs)) := by
  unfold spec9
  have c : (((((decide ((0 : Int) ≤ (rb.length : Int))) && (decide ((rb.length : Int) ≤ (rb.length : Int)))) && (decide (((rb.length : Int) * (1 : Int)) ≤ (140737488355328 : Int)))) && (decide ((rb.length : Int) ≤ (140737488355328 : Int)))) && true) = true := by
    simp only [Bool.and_eq_true, decide_eq_true_eq, and_true]; omega
  simp only [c, cond_true, Int.toNat_natCast]
  rw [keep0 (rs := rs)]
  have hf : fuel9_0 rb rs rs (rs.length : Int) 0 (keepM rb (rs.take 0)) [] = rs.length + 1 := by unfold fuel9_0; omega
  rw [hf]
  have := loop9 (R := V) h5 h4 [] (fun r0_z15 r0_z16 r0_z17 i0_z18 i0_z19 r0_z20 r0_z21 => some (V.data [.int .u8] r0_z20)) rs.length 0 (by omega)
  exact this

theorem spec10_val {rb rs : List (List V)} (h5 : rb.length ≤ 5000) (h4 : rs.length ≤ 40) (hb : ∀ j, j < rb.length → ∃ n, rb.getD j [] = [V.int .u8 n]) : spec10 rb rs some = some (.data [.int .u8] (keepM rb rs)) := by
  unfold spec10
  have c : (((((decide ((0 : Int) ≤ (rb.length : Int))) && (decide ((rb.length : Int) ≤ (rb.length : Int)))) && (decide (((rb.length : Int) * (1 : Int)) ≤ (140737488355328 : Int)))) && (decide ((rb.length : Int) ≤ (140737488355328 : Int)))) && true) = true := by
    simp only [Bool.and_eq_true, decide_eq_true_eq, and_true]; omega
  simp only [c, cond_true, Int.toNat_natCast]
  rw [keep0 (rs := rs)]
  have hf : fuel10_0 rb rs rs (rs.length : Int) 0 (keepM rb (rs.take 0)) [] = rs.length + 1 := by unfold fuel10_0; omega
  rw [hf]
  have := loop10 (R := V) h5 h4 hb [] (fun r0_z15 r0_z16 r0_z17 i0_z18 i0_z19 r0_z20 r0_z21 => some (V.data [.int .u8] r0_z20)) rs.length 0 (by omega)
  exact this

/-- bytes that stand somewhere are rows of one byte -/
theorem real_bytes {rb : List (List V)} {rest : List V} (h : Real (.data [.int .u8] rb :: rest)) : ∀ j, j < rb.length → ∃ n, rb.getD j [] = [V.int .u8 n] := by
  obtain ⟨w, A, vals, hl, hr⟩ := h
  intro j hj
  have hg := getD_of (d := ([] : List V)) hj
  have h0 : 0 < vals.size := by simp at hl; omega
  have hd := hr 0 (.data [.int .u8] rb) _ rfl (Array.getElem?_eq_getElem h0)
  have hf : ∀ r ∈ rb, FitsL [.int .u8] r := by
    generalize vals[0] = z at hd
    cases hd with
    | none => intro r hr; cases hr
    | data _ _ _ _ _ _ _ _ hf => exact hf
  have h1 := hf _ (List.mem_of_getElem? hg)
  match hrow : rb.getD j [], h1 with
  | [x], h1 =>
    have := h1.2 0 (.int .u8) x rfl rfl
    cases this
    exact ⟨_, rfl⟩

theorem good9 {R : Type} : Good1 (R := R) Try.prog 9 c9 := goodHook1 fun l h => by
  unfold pre9 at h
  split at h
  · rename_i x0 x1
    simp only [Bool.and_eq_true, decide_eq_true_eq] at h
    exact ok9 x0 x1 fun _ => spec9_val h.1 h.2
  · cases h
theorem good10 {R : Type} : Good1 (R := R) Try.prog 10 c10 := goodHook1 fun l h => by
  unfold pre10 at h
  split at h
  · rename_i x0 x1
    simp only [Bool.and_eq_true, decide_eq_true_eq] at h
    exact ok10 x0 x1 fun hr => spec10_val h.1 h.2 (real_bytes hr)
  · cases h
theorem good8 {R : Type} : Good1 (R := R) Try.prog 8 c8 := goodHook1 fun l h => by
  unfold pre8 at h
  split at h
  · rename_i x0 x1
    exact ok8 x0 x1 fun _ => rfl
  · cases h
theorem good7 {R : Type} : Good1 (R := R) Try.prog 7 c7 := goodHook1 fun l h => by
  unfold pre7 at h
  split at h
  · exact ok7 good8 good9 fun _ => by kernel_rfl
  · cases h

theorem law3 (rb rs : List (List V)) : FunOK Try.prog 3 [.data [.int .u8] rb, .data [.int .i64, .int .i64] rs] (.bool true) := by
  refine ok3 good7 good8 good9 good10 rb rs fun _ => ?_
  unfold spec3
  by_cases h5 : rb.length ≤ 5000
  · have c1 : decide ((rb.length : Int) > 5000) = false := by simp; omega
    by_cases h4 : rs.length ≤ 40
    · have c2 : decide ((rs.length : Int) > 40) = false := by simp; omega
      simp [c1, c2, h5, h4]
    · have c2 : decide ((rs.length : Int) > 40) = true := by simp; omega
      simp [c1, c2]
  · have c1 : decide ((rb.length : Int) > 5000) = true := by simp; omega
    simp [c1]

end Go.Vm
