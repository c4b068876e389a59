/- IndexKeeps: both Keeps yield the bytes in the spans, and 0 elsewhere. -/
import Derived.Test.YtjekfokamcfffaaVmT2
set_option linter.unusedVariables false
namespace Go.Vm

theorem keepM_get {rb rs : List (List V)} {j : Nat} (hj : j < rb.length) : (keepM rb rs)[j]? = some (if rs.any (inSpan j) then rb.getD j [] else [V.int .u8 0]) := by
  simp [keepM, hj]
theorem keepM_len {rb rs : List (List V)} : (keepM rb rs).length = rb.length := by simp [keepM]

theorem any_take {rs : List (List V)} {i j : Nat} (hi : i < rs.length) : (rs.take (i + 1)).any (inSpan j) = ((rs.take i).any (inSpan j) || inSpan j (rs.getD i [])) := by
  rw [List.take_add_one, List.any_append]
  have : rs[i]? = some (rs.getD i []) := getD_of hi
  rw [this]
  simp

theorem keepM_eq {rb rs : List (List V)} {i : Nat} {out : List (List V)} (hi : i < rs.length) (hl : out.length = rb.length) (h : ∀ j, j < rb.length → out[j]? = (if inSpan j (rs.getD i []) then some (rb.getD j []) else (keepM rb (rs.take i))[j]?)) : out = keepM rb (rs.take (i + 1)) := by
  apply List.ext_getElem?
  intro j
  by_cases hj : j < rb.length
  · rw [h j hj, keepM_get hj, keepM_get hj, any_take hi]
    cases inSpan j (rs.getD i []) with
    | true => simp
    | false => simp
  · rw [List.getElem?_eq_none (by omega), List.getElem?_eq_none (by rw [keepM_len]; omega)]

theorem wrap_small {n : Int} (h0 : -9223372036854775808 ≤ n) (h1 : n ≤ 9223372036854775807) : IntKind.wrap .i64 n = n := by
  unfold IntKind.wrap
  simp [IntKind.bits, IntKind.signed]
  omega

theorem putRows_at {rows new : List (List V)} {at_ j : Nat} (h : at_ + new.length ≤ rows.length) : (putRows rows at_ new)[j]? = if at_ ≤ j ∧ j < at_ + new.length then new[j - at_]? else rows[j]? := by
  have hl := putRows_len rows at_ new
  by_cases hj : j < rows.length
  · have hr : (putRows rows at_ new)[j]? = some (putRows rows at_ new)[j] := List.getElem?_eq_getElem (by omega)
    rcases putRows_get hr with ⟨h1, h2, h3⟩ | ⟨h1, h3⟩
    · rw [if_pos ⟨h1, h2⟩, hr, h3]
    · rw [if_neg (by omega), hr, h3]
  · rw [List.getElem?_eq_none (by omega), if_neg (by omega), List.getElem?_eq_none (by omega)]

theorem loop9 {R : Type} {rb rs : List (List V)} (h5 : rb.length ≤ 5000) (h4 : rs.length ≤ 40) (r6 : List (List V)) (kn : List (List V) → List (List V) → List (List V) → Int → Int → List (List V) → List (List V) → Option R) :
    ∀ (m i : Nat), i + m = rs.length → loop9_0 (m + 1) rb rs rs (rs.length : Int) (i : Int) (keepM rb (rs.take i)) r6 kn = kn rb rs rs (rs.length : Int) (rs.length : Int) (keepM rb rs) r6
  | 0, i, h => by
    have : i = rs.length := by omega
    subst this
    simp [loop9_0, step9_0]
  | m + 1, i, h => by
    have ih := loop9 h5 h4 r6 kn m (i + 1) (by omega)
    have hi : i < rs.length := by omega
    rw [loop9_0]
    unfold step9_0
    have c1 : decide ((i : Int) < (rs.length : Int)) = true := by simpa using hi
    have c2 : inR (i : Int) rs.length = true := by simp [inR]; omega
    have hw : IntKind.wrap .i64 ((i : Int) + 1) = ((i + 1 : Nat) : Int) := by rw [wrap_small (by omega) (by omega)]; omega
    simp only [c1, c2, cond_true, Int.toNat_natCast, hw]
    obtain ⟨F, hF⟩ : ∃ F, V.toInt ((rs.getD i []).getD 0 V.undef) = F := ⟨_, rfl⟩
    obtain ⟨T, hT⟩ : ∃ T, V.toInt ((rs.getD i []).getD 1 V.undef) = T := ⟨_, rfl⟩
    simp only [hF, hT]
    have e7 : (bif decide ((0 : Int) > F) then (0 : Int) else F) = max 0 F := by
      by_cases h : (0 : Int) > F <;> simp [h] <;> omega
    have e9 : (bif decide ((rb.length : Int) < T) then (rb.length : Int) else T) = min (rb.length : Int) T := by
      by_cases h : (rb.length : Int) < T <;> simp [h] <;> omega
    simp only [e7, e9]
    have hin : ∀ j : Nat, inSpan j (rs.getD i []) = (decide (F ≤ (j : Int)) && decide ((j : Int) < T)) := fun j => by simp only [inSpan, hF, hT]
    by_cases hlt : max 0 F < min (rb.length : Int) T
    · have c3 : decide (max 0 F < min (rb.length : Int) T) = true := by simpa using hlt
      have c4 : ((decide ((0 : Int) ≤ max 0 F) && decide (max 0 F ≤ min (rb.length : Int) T)) && decide (min (rb.length : Int) T ≤ ((keepM rb (rs.take i)).length : Int)) && true) = true := by
        rw [keepM_len]; simp only [Bool.and_eq_true, decide_eq_true_eq, and_true]; omega
      have c5 : ((decide ((0 : Int) ≤ max 0 F) && decide (max 0 F ≤ min (rb.length : Int) T)) && decide (min (rb.length : Int) T ≤ (rb.length : Int))) = true := by
        simp only [Bool.and_eq_true, decide_eq_true_eq]; omega
      simp only [c3, c4, c5, cond_true]
      rw [← ih]
      congr 1
      generalize hlo : (max 0 F).toNat = lo
      generalize hhi : (min (rb.length : Int) T).toNat = he
      have b1 : lo < he := by omega
      have b2 : he ≤ rb.length := by omega
      have hnl : (List.take (he - lo) (List.drop lo (List.take he rb))).length = he - lo := by simp; omega
      refine keepM_eq hi ?_ fun j hj => ?_
      · rw [putRows_len, keepM_len]
      · rw [putRows_at (by rw [hnl, keepM_len]; omega), hnl, hin]
        by_cases hjj : lo ≤ j ∧ j < lo + (he - lo)
        · rw [if_pos hjj, if_pos (by simp only [Bool.and_eq_true, decide_eq_true_eq]; omega), List.getElem?_take, if_pos (by omega), List.getElem?_drop, List.getElem?_take, if_pos (by omega)]
          rw [show lo + (j - lo) = j by omega]
          exact getD_of hj
        · rw [if_neg hjj, if_neg (by simp only [Bool.and_eq_true, decide_eq_true_eq]; omega)]
    · have c3 : decide (max 0 F < min (rb.length : Int) T) = false := by simpa using hlt
      simp only [c3, cond_false]
      rw [← ih]
      congr 1
      refine keepM_eq hi keepM_len fun j hj => ?_
      rw [hin, if_neg (by simp only [Bool.and_eq_true, decide_eq_true_eq]; omega)]

end Go.Vm
namespace Go.Vm

theorem loop10_in {R : Type} {rb rs : List (List V)} (h5 : rb.length ≤ 5000) (hb : ∀ j, j < rb.length → ∃ n, rb.getD j [] = [V.int .u8 n]) (L I F T : Int) (b : Bool) (r8 : List (List V)) {hi : Nat} (hhi : (hi : Int) = min (rb.length : Int) T)
    (kn : List (List V) → List (List V) → Int → List (List V) → Int → Int → Bool → List (List V) → List (List V) → Int → Int → Option R) :
    ∀ (m i : Nat) (out : List (List V)), i + m = hi → out.length = rb.length → (∀ r ∈ out, r.length = 1) →
      ∃ out', out'.length = rb.length ∧ (∀ r ∈ out', r.length = 1) ∧ (∀ j, j < rb.length → out'[j]? = if i ≤ j ∧ j < hi then rb[j]? else out[j]?) ∧
        loop10_2 (m + 1) rb rs (i : Int) rs L I b out r8 F T kn = kn rb rs (hi : Int) rs L I b out' r8 F T
  | 0, i, out, h, hl, h1 => by
    have : i = hi := by omega
    subst this
    refine ⟨out, hl, h1, fun j hj => by rw [if_neg (by omega)], ?_⟩
    rw [loop10_2]
    unfold step10_2
    have e9 : (bif decide ((rb.length : Int) < T) then (rb.length : Int) else T) = (i : Int) := by
      rw [hhi]; by_cases h : (rb.length : Int) < T <;> simp [h] <;> omega
    simp only [e9]
    simp
  | m + 1, i, out, h, hl, h1 => by
    have hil : i < rb.length := by omega
    obtain ⟨n, hn⟩ := hb i hil
    have ho := getD_of (d := ([] : List V)) (l := out) (i := i) (by omega)
    have ho1 := h1 _ (List.mem_of_getElem? ho)
    have hset : setCells (out.getD i []) 0 [V.int .u8 n] = [V.int .u8 n] := by
      match out.getD i [], ho1 with
      | [x], _ => rfl
    obtain ⟨out', g1, g2, g3, g4⟩ := loop10_in h5 hb L I F T b r8 hhi kn m (i + 1) (out.set i [V.int .u8 n]) (by omega) (by simp [hl]) (fun r hr => by
      rcases List.mem_or_eq_of_mem_set hr with hr | rfl
      · exact h1 r hr
      · rfl)
    refine ⟨out', g1, g2, fun j hj => ?_, ?_⟩
    · rw [g3 j hj, List.getElem?_set]
      by_cases hj1 : i = j
      · subst hj1
        rw [if_neg (by omega), if_pos rfl, if_pos (by omega), if_pos (by omega), getD_of (d := ([] : List V)) hil, hn]
      · rw [if_neg hj1]
        by_cases hj2 : i + 1 ≤ j ∧ j < hi
        · rw [if_pos hj2, if_pos (by omega)]
        · rw [if_neg hj2, if_neg (by omega)]
    · rw [← g4, loop10_2]
      unfold step10_2
      have e9 : (bif decide ((rb.length : Int) < T) then (rb.length : Int) else T) = (hi : Int) := by
        rw [hhi]; by_cases h : (rb.length : Int) < T <;> simp [h] <;> omega
      have c1 : decide ((i : Int) < (hi : Int)) = true := by simp; omega
      have c2 : inR (i : Int) rb.length = true := by simp [inR]; omega
      have c3 : inR (i : Int) out.length = true := by rw [hl]; exact c2
      have hw : IntKind.wrap .i64 ((i : Int) + 1) = ((i + 1 : Nat) : Int) := by rw [wrap_small (by omega) (by omega)]; omega
      simp only [e9, c1, c2, c3, cond_true, Int.toNat_natCast, hw, hn]
      have : V.toInt ([V.int .u8 n].getD 0 V.undef) = n := rfl
      rw [this, hset]

theorem loop10 {R : Type} {rb rs : List (List V)} (h5 : rb.length ≤ 5000) (h4 : rs.length ≤ 40) (hb : ∀ j, j < rb.length → ∃ n, rb.getD j [] = [V.int .u8 n]) (r6 : List (List V)) (kn : List (List V) → List (List V) → List (List V) → Int → Int → List (List V) → List (List V) → Option R) :
    ∀ (m i : Nat), i + m = rs.length → loop10_0 (m + 1) rb rs rs (rs.length : Int) (i : Int) (keepM rb (rs.take i)) r6 kn = kn rb rs rs (rs.length : Int) (rs.length : Int) (keepM rb rs) r6
  | 0, i, h => by
    have : i = rs.length := by omega
    subst this
    simp [loop10_0, step10_0]
  | m + 1, i, h => by
    have ih := loop10 h5 h4 hb r6 kn m (i + 1) (by omega)
    have hi : i < rs.length := by omega
    rw [loop10_0]
    unfold step10_0
    have c1 : decide ((i : Int) < (rs.length : Int)) = true := by simpa using hi
    have c2 : inR (i : Int) rs.length = true := by simp [inR]; omega
    have hw : IntKind.wrap .i64 ((i : Int) + 1) = ((i + 1 : Nat) : Int) := by rw [wrap_small (by omega) (by omega)]; omega
    simp only [c1, c2, cond_true, Int.toNat_natCast, hw]
    obtain ⟨F, hF⟩ : ∃ F, V.toInt ((rs.getD i []).getD 0 V.undef) = F := ⟨_, rfl⟩
    obtain ⟨T, hT⟩ : ∃ T, V.toInt ((rs.getD i []).getD 1 V.undef) = T := ⟨_, rfl⟩
    simp only [hF, hT]
    have e7 : (bif decide (F > (0 : Int)) then F else (0 : Int)) = max 0 F := by
      by_cases h : F > (0 : Int) <;> simp [h] <;> omega
    simp only [e7]
    have hin : ∀ j : Nat, inSpan j (rs.getD i []) = (decide (F ≤ (j : Int)) && decide ((j : Int) < T)) := fun j => by simp only [inSpan, hF, hT]
    have hk1 : ∀ r ∈ keepM rb (rs.take i), r.length = 1 := by
      intro r hr
      obtain ⟨j, hj⟩ := List.mem_iff_getElem?.1 hr
      have hjl : j < rb.length := by have := (List.getElem?_eq_some_iff.1 hj).1; rw [keepM_len] at this; exact this
      rw [keepM_get hjl] at hj
      obtain ⟨n, hn⟩ := hb j hjl
      split at hj
      · cases hj; rw [hn]; rfl
      · cases hj; rfl
    by_cases hlt : max 0 F ≤ min (rb.length : Int) T
    · obtain ⟨lo, hlo⟩ : ∃ lo : Nat, (lo : Int) = max 0 F := ⟨(max 0 F).toNat, by omega⟩
      obtain ⟨he, hhe⟩ : ∃ he : Nat, (he : Int) = min (rb.length : Int) T := ⟨(min (rb.length : Int) T).toNat, by omega⟩
      have hfuel : fuel10_2 rb rs (max 0 F) rs (rs.length : Int) (i : Int) true (keepM rb (rs.take i)) r6 F T = (he - lo) + 1 := by
        unfold fuel10_2
        have e9 : (bif decide ((rb.length : Int) < T) then (rb.length : Int) else T) = (he : Int) := by
          rw [hhe]; by_cases h : (rb.length : Int) < T <;> simp [h] <;> omega
        simp only [e9]
        omega
      rw [hfuel, ← hlo]
      obtain ⟨out', g1, g2, g3, g4⟩ := loop10_in h5 hb (rs := rs) (rs.length : Int) (i : Int) F T true r6 hhe (fun r2_z14 r2_z15 i2_z16 r2_z17 i2_z18 i2_z19 b2_z20 r2_z21 r2_z22 i2_z23 i2_z24 =>
        let x25 : Int := (IntKind.wrap .i64 (i2_z19 + (1 : Int)))
        loop10_0 (m + 1) r2_z14 r2_z15 r2_z17 i2_z18 x25 r2_z21 r2_z22 kn) (he - lo) lo (keepM rb (rs.take i)) (by omega) keepM_len hk1
      refine (g4.trans ?_)
      simp only [hw]
      rw [← ih]
      congr 1
      refine keepM_eq hi g1 fun j hj => ?_
      rw [g3 j hj, hin]
      by_cases hjj : lo ≤ j ∧ j < he
      · rw [if_pos hjj, if_pos (by simp only [Bool.and_eq_true, decide_eq_true_eq]; omega)]
        exact getD_of hj
      · rw [if_neg hjj, if_neg (by simp only [Bool.and_eq_true, decide_eq_true_eq]; omega)]
    · have hstep : ∀ n, loop10_2 (n + 1) rb rs (max 0 F) rs (rs.length : Int) (i : Int) true (keepM rb (rs.take i)) r6 F T (fun r2_z14 r2_z15 i2_z16 r2_z17 i2_z18 i2_z19 b2_z20 r2_z21 r2_z22 i2_z23 i2_z24 =>
        let x25 : Int := (IntKind.wrap .i64 (i2_z19 + (1 : Int)))
        loop10_0 (m + 1) r2_z14 r2_z15 r2_z17 i2_z18 x25 r2_z21 r2_z22 kn) = loop10_0 (m + 1) rb rs rs (rs.length : Int) ((i + 1 : Nat) : Int) (keepM rb (rs.take i)) r6 kn := by
        intro n
        rw [loop10_2]
        unfold step10_2
        have e9 : (bif decide ((rb.length : Int) < T) then (rb.length : Int) else T) = min (rb.length : Int) T := by
          by_cases h : (rb.length : Int) < T <;> simp [h] <;> omega
        have c3 : decide (max 0 F < min (rb.length : Int) T) = false := by simp; omega
        simp only [e9, c3, cond_false, hw]
      have hfuel : ∃ n, fuel10_2 rb rs (max 0 F) rs (rs.length : Int) (i : Int) true (keepM rb (rs.take i)) r6 F T = n + 1 := ⟨_, rfl⟩
      obtain ⟨n, hn⟩ := hfuel
      rw [hn]
      refine (hstep n).trans ?_
      rw [← ih]
      congr 1
      refine keepM_eq hi keepM_len fun j hj => ?_
      rw [hin, if_neg (by simp only [Bool.and_eq_true, decide_eq_true_eq]; omega)]

end Go.Vm
