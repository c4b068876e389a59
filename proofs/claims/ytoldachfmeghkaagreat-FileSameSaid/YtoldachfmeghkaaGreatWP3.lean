import Derived.Test.YtoldachfmeghkaaGreatWP1
set_option linter.unusedVariables false
set_option linter.unusedSimpArgs false
set_option maxRecDepth 100000
noncomputable section
namespace Go.Vm
open Go.Proofs
theorem R23_step_numbers_0 {R : Type} (p : SParams) (i : Int) (again kn : Int → Option R) (kr : V → Option R) (h0 : 0 ≤ i) (hl : p.Steps.length ≤ 1048576) :
    step_R23_numbers_0 p i again kn kr = bif decide (i < (p.Steps.length : Int)) then (bif inB 1 65536 (V.toInt (List.getD (p.Steps.getD i.toNat []) 0 V.undef)) then again (i + 1) else kr (V.bool false)) else kn i := by
  unfold step_R23_numbers_0
  by_cases hi : i < (p.Steps.length : Int)
  · simp only [decide_eq_true hi, cond_true, inR_of h0 hi, R23_in_eq]
    rw [w64 (n := i + 1) (by omega) (by omega)]
    cases inB 1 65536 (V.toInt (List.getD (p.Steps.getD i.toNat []) 0 V.undef)) <;> rfl
  · simp only [decide_eq_false hi, cond_false]
theorem R23_loop_numbers_0 {R : Type} (p : SParams) (e : Option R) (kr : V → Option R) (hl : p.Steps.length ≤ 1048576) :
    loop_R23_numbers_0 p (fuel_R23_numbers_0 0 p) 0 (fun _ => e) kr = bif stepsOK p.Steps then e else kr (V.bool false) := by
  refine (loop_allB (a := 0) (b := (p.Steps.length : Int)) (L := fun n i => loop_R23_numbers_0 p n i (fun _ => e) kr) (ok := fun i => inB 1 65536 (V.toInt (List.getD (p.Steps.getD i.toNat []) 0 V.undef))) (e := e) (x := kr (V.bool false)) (fun n i h0 => R23_step_numbers_0 p i _ _ kr h0 hl) _ (Nat.le_refl _)).trans ?_
  rw [rng_all (fun w => inB 1 65536 (V.toInt (List.getD w 0 V.undef)))]
  rfl
theorem R23_step_numbers_2 {R : Type} (p : SParams) (i : Int) (again kn : Int → Option R) (kr : V → Option R) (h0 : 0 ≤ i) (hl : p.Precincts.length ≤ 1048576) :
    step_R23_numbers_2 p i again kn kr = bif decide (i < (p.Precincts.length : Int)) then (bif (inB (bif decide (1 < i) then 1 else i) 12 (SPoint.of (p.Precincts.getD i.toNat [])).X && inB (bif decide (1 < i) then 1 else i) 12 (SPoint.of (p.Precincts.getD i.toNat [])).Y) then again (i + 1) else kr (V.bool false)) else kn i := by
  unfold step_R23_numbers_2
  by_cases hi : i < (p.Precincts.length : Int)
  · simp only [decide_eq_true hi, cond_true, inR_of h0 hi, R23_in_eq, Bool.true_or, b_false, Bool.not_not]
    rw [w64 (n := i + 1) (by omega) (by omega)]
    show (bif inB (bif decide (1 < i) then 1 else i) 12 (SPoint.of (p.Precincts.getD i.toNat [])).X then (bif !inB (bif decide (1 < i) then 1 else i) 12 (SPoint.of (p.Precincts.getD i.toNat [])).Y then kr (V.bool false) else again (i + 1)) else kr (V.bool false)) = _
    cases inB (bif decide (1 < i) then 1 else i) 12 (SPoint.of (p.Precincts.getD i.toNat [])).X <;> cases inB (bif decide (1 < i) then 1 else i) 12 (SPoint.of (p.Precincts.getD i.toNat [])).Y <;> rfl
  · simp only [decide_eq_false hi, cond_false]
theorem R23_loop_numbers_2 {R : Type} (p : SParams) (e : Option R) (kr : V → Option R) (hl : p.Precincts.length ≤ 1048576) :
    loop_R23_numbers_2 p (fuel_R23_numbers_2 0 p) 0 (fun _ => e) kr = bif precOK p.Precincts then e else kr (V.bool false) :=
  loop_allB (a := 0) (b := (p.Precincts.length : Int)) (L := fun n i => loop_R23_numbers_2 p n i (fun _ => e) kr) (ok := fun i => inB (bif decide (1 < i) then 1 else i) 12 (SPoint.of (p.Precincts.getD i.toNat [])).X && inB (bif decide (1 < i) then 1 else i) 12 (SPoint.of (p.Precincts.getD i.toNat [])).Y) (e := e) (x := kr (V.bool false)) (fun n i h0 => R23_step_numbers_2 p i _ _ kr h0 hl) _ (Nat.le_refl _)
theorem R23_numbers_spec (p : SParams) : spec_R23_numbers p some = some (V.bool (numB p)) := by
  unfold spec_R23_numbers numB
  simp only [R23_in_eq, b_false, Bool.not_not]
  cases hL : inB 0 5 p.Levels with
  | false => simp only [cond_false, Bool.false_and]
  | true =>
    have hL' := inB_iff.1 hL
    rw [w64 (n := 3 * p.Levels) (by omega) (by omega), w64 (n := 3 * p.Levels + 1) (by omega) (by omega), w64 (n := p.Levels + 1) (by omega) (by omega)]
    cases inB 2 6 p.BlockX with
    | false => rfl
    | true =>
      cases inB 2 6 p.BlockY with
      | false => rfl
      | true =>
        cases inB 1 16 p.Layers with
        | false => rfl
        | true =>
          cases inB 8 32 p.Dead with
          | false => rfl
          | true =>
            cases inB 0 30 p.Shift with
            | false => rfl
            | true =>
              by_cases hs : (p.Steps.length : Int) = 3 * p.Levels + 1
              · have e1 : ((p.Steps.length : Int) != 3 * p.Levels + 1) = false := by simp [hs]
                have e2 : ((p.Steps.length : Int) == 3 * p.Levels + 1) = true := by simp [hs]
                simp only [e1, e2, cond_true, cond_false, Bool.true_and]
                rw [R23_loop_numbers_0 p _ some (by omega)]
                cases stepsOK p.Steps with
                | false => rfl
                | true =>
                  by_cases hz : (p.Precincts.length : Int) = 0
                  · have e3 : ((p.Precincts.length : Int) == 0) = true := by rw [hz]; rfl
                    simp only [e3, cond_true, Bool.true_or, Bool.true_and]
                  · have e3 : ((p.Precincts.length : Int) == 0) = false := beq_eq_false_iff_ne.2 hz
                    by_cases hp : (p.Precincts.length : Int) = p.Levels + 1
                    · have e4 : ((p.Precincts.length : Int) != p.Levels + 1) = false := by simp [hp]
                      have e5 : ((p.Precincts.length : Int) == p.Levels + 1) = true := by simp [hp]
                      simp only [e3, e4, e5, cond_true, cond_false, Bool.true_and, Bool.false_or]
                      rw [R23_loop_numbers_2 p _ some (by omega)]
                      cases precOK p.Precincts <;> rfl
                    · have e4 : ((p.Precincts.length : Int) != p.Levels + 1) = true := by simp [hp]
                      have e5 : ((p.Precincts.length : Int) == p.Levels + 1) = false := by simp [hp]
                      simp only [e3, e4, e5, cond_true, cond_false, Bool.true_and, Bool.false_or, Bool.false_and]
              · have e1 : ((p.Steps.length : Int) != 3 * p.Levels + 1) = true := by simp [hs]
                have e2 : ((p.Steps.length : Int) == 3 * p.Levels + 1) = false := by simp [hs]
                simp only [e1, e2, cond_true, cond_false, Bool.false_and, Bool.and_false]
theorem good_R23_numbers_of (h1 : G_R23_in) : G_R23_numbers := mk_R23_numbers (h_R23_in := h1) fun p _ => R23_numbers_spec p
theorem numB_iff {p : SParams} (h : numB p = true) : (0 ≤ p.Levels ∧ p.Levels ≤ 5) ∧ (2 ≤ p.BlockX ∧ p.BlockX ≤ 6) ∧ (2 ≤ p.BlockY ∧ p.BlockY ≤ 6) ∧ (1 ≤ p.Layers ∧ p.Layers ≤ 16) ∧ (p.Precincts.length = 0 ∨ ((p.Precincts.length : Int) = p.Levels + 1 ∧ precOK p.Precincts = true)) := by
  unfold numB at h
  simp only [Bool.and_eq_true, Bool.or_eq_true, beq_iff_eq] at h
  obtain ⟨⟨⟨⟨⟨⟨⟨⟨h1, h2⟩, h3⟩, h4⟩, h5⟩, h6⟩, h7⟩, h8⟩, h9⟩ := h
  refine ⟨inB_iff.1 h1, inB_iff.1 h2, inB_iff.1 h3, inB_iff.1 h4, ?_⟩
  rcases h9 with h9 | h9
  · exact .inl (by omega)
  · exact .inr h9
theorem Precinct_bd {p : SParams} (h : numB p = true) {res : Int} (h0 : 0 ≤ res) (h1 : res ≤ p.Levels) :
    (min res 1 ≤ (m_params_Precinct p res).X ∧ (m_params_Precinct p res).X ≤ 12) ∧ (min res 1 ≤ (m_params_Precinct p res).Y ∧ (m_params_Precinct p res).Y ≤ 12) := by
  obtain ⟨hL, _, _, _, hp⟩ := numB_iff h
  unfold m_params_Precinct
  have d1 : ¬ res < 0 := by omega
  have d2 : ¬ res > p.Levels := by omega
  simp only [decide_eq_false d1, decide_eq_false d2, cond_false]
  rcases hp with hz | ⟨hn, hok⟩
  · have e : ((p.Precincts.length : Int) == 0) = true := by rw [hz]; rfl
    rw [e]
    show (min res 1 ≤ 12 ∧ (12 : Int) ≤ 12) ∧ (min res 1 ≤ 12 ∧ (12 : Int) ≤ 12)
    omega
  · have e : ((p.Precincts.length : Int) == 0) = false := beq_eq_false_iff_ne.2 (by omega)
    have d3 : ¬ res ≥ (p.Precincts.length : Int) := by omega
    rw [e]
    simp only [cond_false, decide_eq_false d3, inR_of (i := res) (n := p.Precincts.length) h0 (by omega), cond_true]
    have := List.all_eq_true.1 hok res (mem_rngI.2 ⟨h0, by omega⟩)
    simp only [Bool.and_eq_true] at this
    obtain ⟨a, b⟩ := this
    have a' := inB_iff.1 a
    have b' := inB_iff.1 b
    have em : (bif decide (1 < res) then 1 else res) = min res 1 := by
      by_cases hr : 1 < res
      · simp only [decide_eq_true hr, cond_true]; omega
      · simp only [decide_eq_false hr, cond_false]; omega
    rw [em] at a' b'
    exact ⟨a', b'⟩
end Go.Vm
