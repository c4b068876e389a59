import Derived.Test.YtoldachfmeghkaaGreatVmOps2
import Derived.Test.YtoldachfmeghkaaGreatVmPure
namespace Go.Vm
section
variable {P : Program}
theorem chunks_get (z : Nat) : ∀ (n : Nat) (l : List V) (q : Nat), q < n → (chunks z n l)[q]? = some ((l.drop (q * z)).take z)
  | n + 1, l, 0, _ => by simp [chunks]
  | n + 1, l, q + 1, h => by
    rw [chunks, List.getElem?_cons_succ, chunks_get z n (l.drop z) q (by omega), List.drop_drop]
    congr 3
    rw [Nat.add_mul]; omega
theorem chunks_length (z : Nat) : ∀ (n : Nat) (l : List V), (chunks z n l).length = n
  | 0, _ => rfl
  | n + 1, l => by rw [chunks, List.length_cons, chunks_length z n]
theorem selRows_sound {w hp L E A} {i : Int} (sub : Nat → List Value) (z : Nat) (hz : ∀ q, (sub q).length = z) : ∀ (rows : List (List V)) (j : Nat) (r : List V), (∀ (q : Nat) (row : List V), rows[q]? = some row → Rw (VRel w hp L E A) row (sub (j + q))) → selRows i j rows = some r →
    (j : Int) ≤ i → i < (j : Int) + rows.length → Rw (VRel w hp L E A) r (sub i.toNat)
  | [], j, r, _, h, _, _ => by simp [selRows] at h
  | [a], j, r, hrow, h, h1, h2 => by
    simp only [selRows, Option.some.injEq] at h
    subst h
    have e : i.toNat = j + 0 := by simp at h2; omega
    rw [e]; exact hrow 0 a rfl
  | a :: b :: l, j, r, hrow, h, h1, h2 => by
    simp only [selRows] at h
    split at h
    · rename_i s hs
      have ha := hrow 0 a rfl
      have key := selCells_sound (w := w) (h := hp) (L := L) (E := E) (A := A) (q := decide (i = (j : Int))) a s r (sub j) (sub i.toNat) (fun _ => ha) (fun hq => by
        have hne : ¬ i = (j : Int) := by simpa using hq
        exact selRows_sound sub z hz (b :: l) (j + 1) s (fun q row hq => by
          have := hrow (q + 1) row (by simpa using hq)
          rwa [show j + (q + 1) = j + 1 + q by omega] at this) hs (by omega) (by simp at h2 ⊢; omega)) (by rw [hz, hz]) ha.1 h
      cases hq : decide (i = (j : Int)) with
      | true =>
        rw [hq, if_pos rfl] at key
        have e : i.toNat = j := by have := of_decide_eq_true hq; omega
        rw [e]; exact key
      | false => rw [hq] at key; simpa using key
    · cases h
theorem opIndex_sound {w h L E A} {t : TypeId} {vx vi : V} {xx xi : Value} {v e fz} (hx : VRel w h L E A vx xx) (hi : VRel w h L E A vi xi) (h1 : opIndex P t vx vi = ⟨true, v, e, fz⟩) :
    ∃ x, (Instr.index t xx xi).run P w = .ok x w ∧ VRel w h L E A v x ∧ e = .none ∧ fz = [] := by
  unfold opIndex at h1
  split at h1
  · rename_i k i cs
    cases hi with | pure hi => cases hi with | int =>
    split at h1
    · rename_i n el hu
      cases hc : okT P el && Nat.beq cs.length (n * szOf P el) with
      | false => simp [hc, OR.fail] at h1
      | true =>
        simp only [hc, cond_true] at h1
        simp only [Bool.and_eq_true] at hc
        obtain ⟨hok, hlen⟩ := hc
        have hlen := Nat.eq_of_beq_eq_true hlen
        split at h1
        · rename_i r hr
          cases ho : outV P el r with
          | mk c v' e' f' =>
          rw [ho] at h1
          simp only [OR.if, OR.mk.injEq, Bool.and_eq_true] at h1
          obtain ⟨⟨rfl, hin⟩, rfl, rfl, rfl⟩ := h1
          rw [inR_iff] at hin
          obtain ⟨axs, rfl, hl, hcell⟩ := aggR hx
          have hle : ∀ q, q < n → (q + 1) * szOf P el ≤ axs.size := by
            intro q hq
            rw [← hl, hlen]; exact Nat.mul_le_mul_right _ (by omega)
          let sub : Nat → List Value := fun q => if q < n then (axs.extract (q * szOf P el) (q * szOf P el + szOf P el)).toList else List.replicate (szOf P el) undef
          have hsub : ∀ q, (sub q).length = szOf P el := by
            intro q
            by_cases hq : q < n
            · have := hle q hq
              simp only [sub, if_pos hq, Array.length_toList, Array.size_extract]
              rw [Nat.add_mul] at this
              omega
            · simp [sub, if_neg hq]
          have hsel := selRows_sound (w := w) (hp := h) (L := L) (E := E) (A := A) (i := i) sub (szOf P el) hsub (chunks (szOf P el) n cs) 0 r (fun q row hq => by
            have hqn : q < n := by have := (List.getElem?_eq_some_iff.1 hq).1; rwa [chunks_length] at this
            rw [chunks_get _ _ _ _ hqn] at hq
            simp only [Option.some.injEq] at hq
            subst hq
            have hle' := hle q hqn
            rw [Nat.add_mul] at hle'
            refine ⟨by rw [hsub]; simp; omega, fun p v x h1 h2 => ?_⟩
            rw [List.getElem?_take] at h1
            split at h1
            · rename_i hp
              rw [List.getElem?_drop] at h1
              simp only [Nat.zero_add, sub, if_pos hqn, Array.getElem?_toList, Array.getElem?_extract] at h2
              split at h2
              · exact hcell _ v x h1 h2
              · cases h2
            · cases h1) hr (by omega) (by rw [chunks_length]; omega)
          have hin' : i.toNat < n := by omega
          obtain ⟨o1, _, _, o4⟩ := outV_sound (P := P) hsel ho
          refine ⟨_, ?_, o1, rfl, rfl⟩
          have e1 : sub i.toNat = (axs.extract (i.toNat * szOf P el) (i.toNat * szOf P el + szOf P el)).toList := by simp [sub, hin']
          rw [e1] at o4 ⊢
          simp only [Instr.index, asIntOf, Sem.run_bind, Sem.run_pure, Result.andThen_ok, run_underlying hu, hin, and_self, if_true, run_sizeOf hok, Go.part, run_isAgg hok]
          cases ha : aggT P el with
          | true => simp only [if_true, Sem.run_bind, run_sizeOf hok, Result.andThen_ok, Sem.run_pure, Array.toArray_toList]
          | false =>
            obtain ⟨x, hx1⟩ := o4 ha
            have hz1 : szOf P el = 1 := by have := hsub i.toNat; rw [e1, hx1] at this; simpa using this.symm
            have := congrArg (fun l : List Value => l[0]?) hx1
            simp only [Array.getElem?_toList, Array.getElem?_extract, List.getElem?_cons_zero] at this
            split at this
            · simp only [Nat.add_zero] at this
              rw [hx1]
              simp [this]
            · cases this
        · simp [OR.fail] at h1
    · simp [OR.fail] at h1
  · rename_i k i s
    cases hi with | pure hi => cases hi with | int =>
    cases hx with | pure hx => cases hx with | str =>
    simp only [OR.if, OR.mk.injEq, Bool.and_eq_true] at h1
    obtain ⟨⟨hin, hs⟩, rfl, rfl, rfl⟩ := h1
    rw [inR_iff] at hin
    have hu : P.underlying t = some .string := by
      unfold strT at hs; split at hs
      · assumption
      · cases hs
    refine ⟨.int .u8 ((s.data.toList.getD i.toNat 0).toNat : Int), ?_, .pure (.int _ _), rfl, rfl⟩
    have hlt : i.toNat < s.size := by omega
    simp [Instr.index, asIntOf, run_underlying hu, hin]
    rfl
  · simp [OR.fail] at h1
theorem opLen_sound {w h L E A} {t ty : TypeId} {vx : V} {xx : Value} {v e fz} (hh : ∀ k b, h.get k = some b → b.vec = true → ∃ a c, E.hd k = .slice a b.rows.length c) (hn : ∀ k b, h.get k = some b → b.vec = true → E.m k = none → b.rows.length = 0)
    (hx : VRel w h L E A vx xx) (h1 : opLen P t h vx = ⟨true, v, e, fz⟩) :
    ∃ x, (Builtin.len_ #[t] ty #[xx]).run P w = .ok x w ∧ VRel w h L E A v x ∧ e = .none ∧ fz = [] := by
  unfold opLen at h1
  split at h1
  · rename_i el hu
    split at h1
    · simp only [OR.val, OR.mk.injEq] at h1
      obtain ⟨_, rfl, rfl, rfl⟩ := h1
      cases hx with | pure hx =>
      cases hx with
      | none => exact ⟨_, by simp [Builtin.len_, run_underlying hu, goInt], .pure (.int _ _), rfl, rfl⟩
      | data => exact ⟨_, by simp [Builtin.len_, run_underlying hu, goInt], .pure (.int _ _), rfl, rfl⟩
    · simp only [OR.val, OR.mk.injEq] at h1
      obtain ⟨_, rfl, rfl, rfl⟩ := h1
      cases hx with
      | pure hx => cases hx
      | nils => exact ⟨_, by simp [Builtin.len_, run_underlying hu, goInt], .pure (.int _ _), rfl, rfl⟩
    · rename_i k
      split at h1
      · rename_i b hb
        cases hvec : b.vec with
        | false => simp [hvec, OR.fail] at h1
        | true =>
        simp only [hvec, cond_true, OR.val, OR.mk.injEq] at h1
        obtain ⟨_, rfl, rfl, rfl⟩ := h1
        cases hx with
        | pure hx => cases hx
        | vs _ _ hL hx2 hh2 =>
          obtain ⟨a, c, hac⟩ := hh k b hb hvec
          have := hh2 b hb
          rw [hac] at this
          subst this
          exact ⟨_, by simp [Builtin.len_, run_underlying hu, goInt], .pure (.int _ _), rfl, rfl⟩
      · simp [OR.fail] at h1
    · rename_i k lo hi
      split at h1
      · rename_i b hb
        cases hvec : b.vec with
        | false => simp [hvec, OR.fail] at h1
        | true =>
        simp only [hvec, cond_true, OR.val, OR.mk.injEq] at h1
        obtain ⟨_, rfl, rfl, rfl⟩ := h1
        cases hx with
        | pure hx => cases hx
        | sub _ _ _ _ hL hx2 hh2 =>
          obtain ⟨g1, g2, ⟨gm, rfl⟩ | ⟨r, off, cap, gm, _, _, rfl⟩⟩ := hh2 b hb
          · have h0 := hn k b hb hvec gm
            have : hi - lo = 0 := by omega
            rw [this]
            exact ⟨_, by simp [Builtin.len_, run_underlying hu, goInt], .pure (.int _ _), rfl, rfl⟩
          · exact ⟨_, by simp [Builtin.len_, run_underlying hu, goInt], .pure (.int _ _), rfl, rfl⟩
      · simp [OR.fail] at h1
    · simp [OR.fail] at h1
  · rename_i hu
    split at h1
    · simp only [OR.val, OR.mk.injEq] at h1
      obtain ⟨_, rfl, rfl, rfl⟩ := h1
      cases hx with | pure hx => cases hx with | str =>
      exact ⟨_, by simp [Builtin.len_, run_underlying hu, goInt], .pure (.int _ _), rfl, rfl⟩
    · simp [OR.fail] at h1
  · rename_i n el hu
    simp only [OR.val, OR.mk.injEq] at h1
    obtain ⟨_, rfl, rfl, rfl⟩ := h1
    exact ⟨_, by simp [Builtin.len_, run_underlying hu, goInt], .pure (.int _ _), rfl, rfl⟩
  · rename_i kt et hu
    split at h1
    · rename_i rows
      simp only [OR.val, OR.mk.injEq] at h1
      obtain ⟨_, rfl, rfl, rfl⟩ := h1
      cases hx with | pure hx =>
      cases hx with
      | mnil => exact ⟨_, by simp [Builtin.len_, run_underlying hu, goInt], .pure (.int _ _), rfl, rfl⟩
      | mdat _ r es clk kf vf hA hw hl =>
        refine ⟨.int .i64 es.size, ?_, ?_, rfl, rfl⟩
        · simp [Builtin.len_, run_underlying hu, goInt, getObj, Sem.run, hw]
        · rw [← hl]; exact .pure (.int _ _)
    · simp [OR.fail] at h1
  · simp [OR.fail] at h1
theorem minL_sound {w h L E A} : ∀ (k : IntKind) (x : Int) (vs : List V) (xs : List Value) (v : V) (e fz), Rw (VRel w h L E A) vs xs → minL k x vs = ⟨true, v, e, fz⟩ →
    ∃ y, ((xs.foldlM Builtin.min2 (.int k x) : Sem Value)).run P w = .ok y w ∧ VRel w h L E A v y ∧ e = .none ∧ fz = []
  | k, x, [], xs, v, e, fz, hr, h1 => by
    have : xs = [] := List.length_eq_zero_iff.1 hr.1.symm
    subst this
    simp only [minL, OR.val, OR.mk.injEq] at h1
    obtain ⟨_, rfl, rfl, rfl⟩ := h1
    exact ⟨_, by simp, .pure (.int _ _), rfl, rfl⟩
  | k, x, u :: r, xs, v, e, fz, hr, h1 => by
    match xs, hr with
    | y :: ys, hr =>
      have h0 := hr.2 0 u y rfl rfl
      cases u with
      | int k' n =>
      simp only [minL] at h1
      cases h0 with | pure h0 => cases h0 with | int =>
      obtain ⟨z, hz, r1⟩ := minL_sound k _ r ys v e fz ⟨by simpa using hr.1, fun i v x h1 h2 => hr.2 (i + 1) v x (by simpa using h1) (by simpa using h2)⟩ h1
      refine ⟨z, ?_, r1⟩
      have e2 : (bif decide (n < x) then n else x) = (if n < x then n else x) := by by_cases h : n < x <;> simp [h]
      rw [e2] at hz
      simp only [List.foldlM_cons, Builtin.min2, Sem.run_bind, Sem.run_pure, Result.andThen_ok]
      exact hz
      | _ => simp [minL, OR.fail] at h1
theorem maxL_sound {w h L E A} : ∀ (k : IntKind) (x : Int) (vs : List V) (xs : List Value) (v : V) (e fz), Rw (VRel w h L E A) vs xs → maxL k x vs = ⟨true, v, e, fz⟩ →
    ∃ y, ((xs.foldlM Builtin.max2 (.int k x) : Sem Value)).run P w = .ok y w ∧ VRel w h L E A v y ∧ e = .none ∧ fz = []
  | k, x, [], xs, v, e, fz, hr, h1 => by
    have : xs = [] := List.length_eq_zero_iff.1 hr.1.symm
    subst this
    simp only [maxL, OR.val, OR.mk.injEq] at h1
    obtain ⟨_, rfl, rfl, rfl⟩ := h1
    exact ⟨_, by simp, .pure (.int _ _), rfl, rfl⟩
  | k, x, u :: r, xs, v, e, fz, hr, h1 => by
    match xs, hr with
    | y :: ys, hr =>
      have h0 := hr.2 0 u y rfl rfl
      cases u with
      | int k' n =>
      simp only [maxL] at h1
      cases h0 with | pure h0 => cases h0 with | int =>
      obtain ⟨z, hz, r1⟩ := maxL_sound k _ r ys v e fz ⟨by simpa using hr.1, fun i v x h1 h2 => hr.2 (i + 1) v x (by simpa using h1) (by simpa using h2)⟩ h1
      refine ⟨z, ?_, r1⟩
      have e2 : (bif decide (n > x) then n else x) = (if n > x then n else x) := by by_cases h : n > x <;> simp [h]
      rw [e2] at hz
      simp only [List.foldlM_cons, Builtin.max2, Sem.run_bind, Sem.run_pure, Result.andThen_ok]
      exact hz
      | _ => simp [maxL, OR.fail] at h1
theorem setCells_get : ∀ (vs : List V) (l : List V) (j i : Nat), j + vs.length ≤ l.length → (setCells l j vs)[i]? = if j ≤ i ∧ i < j + vs.length then vs[i - j]? else l[i]?
  | [], l, j, i, _ => by
    rw [setCells, if_neg (fun h => by simp at h; omega)]
  | v :: r, l, j, i, h => by
    simp only [List.length_cons] at h ⊢
    rw [setCells, setCells_get r (l.set j v) (j + 1) i (by simp; omega)]
    by_cases e : i = j
    · subst e
      rw [if_neg (by omega), if_pos (by omega)]
      have hlt : i < l.length := by omega
      simp [hlt]
    · by_cases hr : j + 1 ≤ i ∧ i < j + 1 + r.length
      · rw [if_pos hr, if_pos (by omega)]
        have : i - j = (i - (j + 1)) + 1 := by omega
        rw [this, List.getElem?_cons_succ]
      · rw [if_neg hr, if_neg (by omega), List.getElem?_set_ne (fun h => e h.symm)]
theorem setCells_length : ∀ (vs : List V) (l : List V) (j : Nat), (setCells l j vs).length = l.length
  | [], l, j => rfl
  | v :: r, l, j => by rw [setCells, setCells_length r]; simp
end
end Go.Vm
