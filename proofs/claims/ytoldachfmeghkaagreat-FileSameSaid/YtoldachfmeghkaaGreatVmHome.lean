import Derived.Test.YtoldachfmeghkaaGreatVmAny7
set_option linter.unusedVariables false
namespace Go.Vm
def SS (n0 : Nat) (A0 : Nat → Prop) (w : World) (s : St) (a : Array Value) : Prop := ∃ E, SRel n0 A0 (fun k => k < s.n) w s.t s.h a E ∧ ∀ v ∈ s.t, V.noGd v = true
theorem SS.keys {n0 A0 w s a} (S : SS n0 A0 w s a) : ∀ k b, s.h.get k = some b → k < s.n := by
  obtain ⟨E, S, _⟩ := S
  exact S.hl
theorem SS.len {n0 A0 w s a} (S : SS n0 A0 w s a) : s.t.length = a.size := by
  obtain ⟨E, S, _⟩ := S
  exact S.len
theorem VRel.refs_mono {w h h' L L' E E' A A'} (hA : ∀ b, A b → A' b) {v x} (hv : VRel w h L E A v x) :
    (∀ k ∈ V.refs v, L' k ∧ ∀ b', h'.get k = some b' → ∃ b, h.get k = some b ∧ b.rows.length ≤ b'.rows.length ∧ b.sh = b'.sh ∧ E'.m k = E.m k ∧ E'.hd k = E.hd k) → VRel w h' L' E' A' v x := by
  induction hv with
  | pure hd => exact fun _ => .pure (hd.mono fun b hb => ⟨hA b hb, rfl⟩)
  | agg cs xs hl _ ih => exact fun hr => .agg cs xs hl fun i v x h1 h2 => ih i v x h1 h2 fun k hk => hr k (by rw [V.refs]; exact mem_refsL (List.mem_of_getElem? h1) hk)
  | tup cs xs hl _ ih => exact fun hr => .tup cs xs hl fun i v x h1 h2 => ih i v x h1 h2 fun k hk => hr k (by rw [V.refs]; exact mem_refsL (List.mem_of_getElem? h1) hk)
  | nils sh => exact fun _ => .nils sh
  | vs k x h1 h2 h3 =>
    intro hr
    obtain ⟨hL, hh⟩ := hr k (by simp [V.refs])
    refine .vs k x hL h2 fun b' hb' => ?_
    obtain ⟨b, hb, _, _, _, e⟩ := hh b' hb'
    rw [e]; exact h3 b hb
  | sub k lo hi x h1 h2 h3 =>
    intro hr
    obtain ⟨hL, hh⟩ := hr k (by simp [V.refs])
    refine .sub k lo hi x hL h2 fun b' hb' => ?_
    obtain ⟨b, hb, e1, e2, e3, _⟩ := hh b' hb'
    obtain ⟨g1, g2, g3⟩ := h3 b hb
    rw [e3, ← e2]
    exact ⟨g1, by omega, g3⟩
  | ptr k i j x h1 h2 h3 =>
    intro hr
    obtain ⟨hL, hh⟩ := hr k (by simp [V.refs])
    refine .ptr k i j x hL h2 fun b' hb' => ?_
    obtain ⟨b, hb, e1, e2, e3, _⟩ := hh b' hb'
    obtain ⟨hi, r, hr, hx⟩ := h3 b hb
    exact ⟨by omega, r, by rw [e3]; exact hr, by rw [← e2]; exact hx⟩
  | fn g caps xs hl _ ih => exact fun hr => .fn g caps xs hl fun i v x h1 h2 => ih i v x h1 h2 fun k hk => hr k (by rw [V.refs]; exact mem_refsL (List.mem_of_getElem? h1) hk)
  | mp k x h1 h2 h3 =>
    intro hr
    obtain ⟨hL, hh⟩ := hr k (by simp [V.refs])
    refine .mp k x hL h2 fun b' hb' => ?_
    obtain ⟨b, hb, _, _, e3, _⟩ := hh b' hb'
    rw [e3]; exact h3 b hb
  | gd j q v x => exact fun _ => .gd j q v x
def Uniq (l : List (Nat × Nat)) : Prop := l.Pairwise fun p q => p.1 ≠ q.1 ∧ p.2 ≠ q.2
theorem tidy_uniq : ∀ l, Uniq (tidy l)
  | [] => List.Pairwise.nil
  | p :: r => by
    simp only [tidy]
    cases hq : (tidy r).any (fun x => Nat.beq x.1 p.1 || Nat.beq x.2 p.2) with
    | true => simp only [cond_true]; exact tidy_uniq r
    | false =>
      simp only [cond_false]
      refine List.Pairwise.cons (fun x hx => ?_) (tidy_uniq r)
      rw [List.any_eq_false] at hq
      have := hq x hx
      simp only [Bool.or_eq_true, not_or] at this
      exact ⟨fun e => this.1 (by rw [e]; simp), fun e => this.2 (by rw [e]; simp)⟩
theorem Uniq.eq {l : List (Nat × Nat)} (h : Uniq l) {p q : Nat × Nat} (hp : p ∈ l) (hq : q ∈ l) (e : p.1 = q.1 ∨ p.2 = q.2) : p = q := by
  induction l with
  | nil => cases hp
  | cons x r ih =>
    obtain ⟨h1, h2⟩ := List.pairwise_cons.1 h
    rcases List.mem_cons.1 hp with e1 | hp'
    · rcases List.mem_cons.1 hq with e2 | hq'
      · rw [e1, e2]
      · have := h1 q hq'
        rw [← e1] at this
        rcases e with e | e
        · exact absurd e this.1
        · exact absurd e this.2
    · rcases List.mem_cons.1 hq with e2 | hq'
      · have := h1 p hp'
        rw [← e2] at this
        rcases e with e | e
        · exact absurd e.symm this.1
        · exact absurd e.symm this.2
      · exact ih h2 hp' hq'
theorem srcOf_mem {mv : List (Nat × Nat)} {k b : Nat} (h : srcOf mv k = some b) : (k, b) ∈ mv := by
  unfold srcOf at h
  obtain ⟨p, hp, rfl⟩ := Option.map_eq_some_iff.1 h
  have h1 := List.find?_some hp
  have h2 := List.mem_of_find?_eq_some hp
  rw [← Nat.eq_of_beq_eq_true h1]
  exact h2
theorem dstOf_mem {mv : List (Nat × Nat)} {a b : Nat} (h : dstOf mv b = some a) : (a, b) ∈ mv := by
  unfold dstOf at h
  obtain ⟨p, hp, rfl⟩ := Option.map_eq_some_iff.1 h
  have h1 := List.find?_some hp
  have h2 := List.mem_of_find?_eq_some hp
  rw [← Nat.eq_of_beq_eq_true h1]
  exact h2
theorem mem_srcOf {mv : List (Nat × Nat)} (hu : Uniq mv) {k b : Nat} (h : (k, b) ∈ mv) : srcOf mv k = some b := by
  cases hs : srcOf mv k with
  | none =>
    unfold srcOf at hs
    rw [Option.map_eq_none_iff, List.find?_eq_none] at hs
    exact absurd (by simp) (hs _ h)
  | some c =>
    have := hu.eq (srcOf_mem hs) h (.inl rfl)
    cases this; rfl
theorem mem_dstOf {mv : List (Nat × Nat)} {a b : Nat} (h : (a, b) ∈ mv) : (dstOf mv b).isSome = true := by
  cases hs : dstOf mv b with
  | none =>
    unfold dstOf at hs
    rw [Option.map_eq_none_iff, List.find?_eq_none] at hs
    exact absurd (by simp) (hs _ h)
  | some c => rfl
def srcN (mv : List (Nat × Nat)) (k : Nat) : Nat := match srcOf mv k with
  | some b => b
  | none => k
theorem homeH_get {n mv h k b} : ∀ {h0 : Heap}, (homeH n mv h h0).get k = some b → ∃ a, (k, a) ∈ h0 ∧ homeB n mv h k a = some b
  | [], hg => by simp [homeH, Heap.get] at hg
  | (i, a) :: l, hg => by
    simp only [homeH] at hg
    split at hg
    · rename_i b' hb'
      simp only [Heap.get] at hg
      cases he : Nat.beq i k with
      | true =>
        have := Nat.eq_of_beq_eq_true he
        subst this
        rw [he] at hg
        simp only [cond_true, Option.some.injEq] at hg
        subst hg
        exact ⟨a, by simp, hb'⟩
      | false =>
        rw [he] at hg
        simp only [cond_false] at hg
        obtain ⟨a', h1, h2⟩ := homeH_get hg
        exact ⟨a', List.mem_cons_of_mem _ h1, h2⟩
    · obtain ⟨a', h1, h2⟩ := homeH_get hg
      exact ⟨a', List.mem_cons_of_mem _ h1, h2⟩
theorem mem_get {h : Heap} {k : Nat} {a : Blk} (hm : (k, a) ∈ h) : ∃ b, h.get k = some b := by
  induction h with
  | nil => cases hm
  | cons p r ih =>
    obtain ⟨i, c⟩ := p
    simp only [Heap.get]
    cases he : Nat.beq i k with
    | true => exact ⟨c, rfl⟩
    | false =>
      simp only [cond_false]
      rcases List.mem_cons.1 hm with e | hm
      · cases e; simp at he
      · exact ih hm
structure HomeB (n : Nat) (mv : List (Nat × Nat)) (i : Nat) (a b0 b : Blk) : Prop where
  keep : srcOf mv i = none → dstOf mv i = none
  vec : b.vec = b0.vec
  sh : b.sh = b0.sh
  fr : b.fr = b0.fr
  len : b.rows.length = b0.rows.length
  v : (b0.vec || b0.isMap) = true → b.rows = b0.rows
  r : (b0.vec || b0.isMap) = false → b.rows = homeRows n mv a.rows b0.rows ∧ ∀ r ∈ b.rows, r.length = b.sh.length
theorem homeB_spec {n mv h i a b} (hb : homeB n mv h i a = some b) : ∃ b0, h.get (srcN mv i) = some b0 ∧ HomeB n mv i a b0 b := by
  unfold homeB at hb
  change (match h.get (srcN mv i) with | some b => _ | none => _) = some b at hb
  split at hb
  · rename_i b0 hb0
    refine ⟨b0, hb0, ?_⟩
    revert hb
    cases hk : (srcOf mv i).isNone && (dstOf mv i).isSome with
    | true => intro hb; simp at hb
    | false =>
      intro hb
      have hkeep : srcOf mv i = none → dstOf mv i = none := by
        intro e
        rw [e] at hk
        simpa using hk
      simp only [cond_false] at hb
      cases hv : (b0.vec || b0.isMap) with
      | true =>
        rw [hv] at hb
        simp only [cond_true, Option.some.injEq] at hb
        subst hb
        exact ⟨hkeep, rfl, rfl, rfl, rfl, fun _ => rfl, fun h => (by rw [hv] at h; cases h)⟩
      | false =>
        rw [hv] at hb
        simp only [cond_false] at hb
        revert hb
        cases hc : Nat.beq (homeRows n mv a.rows b0.rows).length b0.rows.length && (homeRows n mv a.rows b0.rows).all (fun r => Nat.beq r.length b0.sh.length) with
        | false => intro hb; simp at hb
        | true =>
          intro hb
          simp only [cond_true, Option.some.injEq] at hb
          subst hb
          rw [Bool.and_eq_true] at hc
          exact ⟨hkeep, rfl, rfl, rfl, Nat.eq_of_beq_eq_true hc.1, (fun h => by rw [hv] at h; cases h), fun _ => ⟨rfl, fun r hr => Nat.eq_of_beq_eq_true (List.all_eq_true.1 hc.2 r hr)⟩⟩
  · cases hb
theorem homeL_get {n mv} : ∀ {l r : List V} {j : Nat} {v : V}, (homeL n mv l r)[j]? = some v → ∃ v0 vb, r[j]? = some vb ∧ v = homeV n mv v0 vb
  | [], r, j, v, h => by simp [homeL] at h
  | _ :: _, [], j, v, h => by simp [homeL] at h
  | a :: l, b :: r, j, v, h => by
    simp only [homeL] at h
    cases j with
    | zero =>
      simp only [List.getElem?_cons_zero, Option.some.injEq] at h
      exact ⟨a, b, rfl, h.symm⟩
    | succ j =>
      obtain ⟨v0, vb, h1, h2⟩ := homeL_get (l := l) (r := r) (by simpa using h)
      exact ⟨v0, vb, by simpa using h1, h2⟩
theorem homeL_len {n mv} : ∀ {l r : List V}, l.length = r.length → (homeL n mv l r).length = r.length
  | [], [], h => rfl
  | [], _ :: _, h => by cases h
  | _ :: _, [], h => by cases h
  | a :: l, b :: r, h => by simp only [homeL, List.length_cons, homeL_len (l := l) (r := r) (by simpa using h)]
theorem homeRows_get {n mv} : ∀ {l r : List (List V)} {i j : Nat} {row : List V} {v : V}, (homeRows n mv l r)[i]? = some row → row[j]? = some v → ∃ rb v0 vb, r[i]? = some rb ∧ rb[j]? = some vb ∧ v = homeV n mv v0 vb
  | [], r, i, j, row, v, h, _ => by simp [homeRows] at h
  | _ :: _, [], i, j, row, v, h, _ => by simp [homeRows] at h
  | a :: l, b :: r, i, j, row, v, h, h2 => by
    simp only [homeRows] at h
    cases i with
    | zero =>
      simp only [List.getElem?_cons_zero, Option.some.injEq] at h
      subst h
      obtain ⟨v0, vb, h3, h4⟩ := homeL_get h2
      exact ⟨b, v0, vb, rfl, h3, h4⟩
    | succ i =>
      obtain ⟨rb, v0, vb, h1, h3, h4⟩ := homeRows_get (l := l) (r := r) (by simpa using h) h2
      exact ⟨rb, v0, vb, by simpa using h1, h3, h4⟩
theorem homeV_noGd {n mv v0 v} (hv : V.noGd v = true) : V.noGd (homeV n mv v0 v) = true := by
  unfold homeV
  split
  · rfl
  · split
    · split
      · cases Nat.blt _ n <;> rfl
      · cases Nat.blt _ n && _ <;> rfl
    · cases V.under n v && _ <;> first | rfl | exact hv
section
variable {n0 : Nat} {A0 : Nat → Prop} {w : World} {s0 s : St} {a : Array Value}
theorem SS.home (hk0 : ∀ k b, s0.h.get k = some b → k < s0.n) (hlen : s0.t.length = s.t.length) (S : SS n0 A0 w s a) : SS n0 A0 w (s0.home s) a := by
  obtain ⟨E, S, hng⟩ := S
  unfold St.home
  generalize hmv : tidy (movedL s0.t s.t ++ movedH s0.h s.h) = mv
  have hu : Uniq mv := hmv ▸ tidy_uniq _
  simp only
  let E' : Emb := ⟨fun k => E.m (srcN mv k), fun k => E.hd (srcN mv k)⟩
  have get' : ∀ k b, (homeH s0.n mv s.h s0.h).get k = some b → k < s0.n ∧ ∃ a b0, s.h.get (srcN mv k) = some b0 ∧ HomeB s0.n mv k a b0 b := by
    intro k b hb
    obtain ⟨a, hm, hB⟩ := homeH_get hb
    obtain ⟨b0, h1, h2⟩ := homeB_spec hB
    obtain ⟨b1, hb1⟩ := mem_get hm
    exact ⟨hk0 k b1 hb1, a, b0, h1, h2⟩
  have hA : ∀ b, Ab n0 A0 w s.h E b → Ab n0 A0 w (homeH s0.n mv s.h s0.h) E' b := by
    refine fun b hb => ⟨hb.1, hb.2.1, fun k bl hk hf => ?_⟩
    obtain ⟨_, a, b0, h1, h2⟩ := get' k bl hk
    exact hb.2.2 _ b0 h1 (by rw [← h2.fr]; exact hf)
  have hV : ∀ v0 v x, VRel w s.h (fun k => k < s.n) E (Ab n0 A0 w s.h E) v x → VRel w (homeH s0.n mv s.h s0.h) (fun k => k < s0.n) E' (Ab n0 A0 w (homeH s0.n mv s.h s0.h) E') (homeV s0.n mv v0 v) x := by
    intro v0 v x hv
    have still : ∀ k, srcOf mv k = none → ∀ b', (homeH s0.n mv s.h s0.h).get k = some b' → ∃ b, s.h.get k = some b ∧ b.rows.length ≤ b'.rows.length ∧ b.sh = b'.sh ∧ E'.m k = E.m k ∧ E'.hd k = E.hd k := by
      intro k hk b' hb'
      obtain ⟨_, a, b0, h1, h2⟩ := get' k b' hb'
      have e : srcN mv k = k := by simp [srcN, hk]
      rw [e] at h1
      exact ⟨b0, h1, Nat.le_of_eq h2.len.symm, h2.sh.symm, by simp [E', e], by simp [E', e]⟩
    have other : ∀ v, VRel w s.h (fun k => k < s.n) E (Ab n0 A0 w s.h E) v x → VRel w (homeH s0.n mv s.h s0.h) (fun k => k < s0.n) E' (Ab n0 A0 w (homeH s0.n mv s.h s0.h) E') (bif V.under s0.n v && (V.refs v).all (fun k => (srcOf mv k).isNone && (dstOf mv k).isNone) then v else .undef) x := by
      intro v hv
      cases hc : V.under s0.n v && (V.refs v).all (fun k => (srcOf mv k).isNone && (dstOf mv k).isNone) with
      | false => exact .pure (.undef _)
      | true =>
        rw [Bool.and_eq_true] at hc
        simp only [cond_true]
        refine hv.refs_mono hA fun k hk => ⟨under_refs v hc.1 k hk, ?_⟩
        have := List.all_eq_true.1 hc.2 k hk
        rw [Bool.and_eq_true] at this
        exact still k (by simpa using this.1)
    unfold homeV
    split
    · exact .pure (.undef _)
    · split
      · rename_i b
        cases hd : dstOf mv b with
        | some a0 =>
          simp only
          cases hlt : Nat.blt a0 s0.n with
          | false => exact .pure (.undef _)
          | true =>
            simp only [cond_true]
            have hm := dstOf_mem hd
            have hs := mem_srcOf hu hm
            have e : srcN mv a0 = b := by simp [srcN, hs]
            cases hv with
            | pure hd => cases hd
            | vs _ _ hL hx hh =>
              refine .vs a0 x (by simpa [Nat.blt_eq] using hlt) hx fun b'' hb'' => ?_
              obtain ⟨_, a, b0, h1, h2⟩ := get' a0 b'' hb''
              rw [e] at h1
              show x = E.hd (srcN mv a0)
              rw [e]; exact hh b0 h1
        | none =>
          simp only
          cases hc : Nat.blt b s0.n && (srcOf mv b).isNone with
          | false => exact .pure (.undef _)
          | true =>
            rw [Bool.and_eq_true] at hc
            simp only [cond_true]
            refine hv.refs_mono hA fun k hk => ?_
            simp only [V.refs, List.mem_singleton] at hk
            subst hk
            exact ⟨by simpa [Nat.blt_eq] using hc.1, still k (by simpa using hc.2)⟩
      · exact other _ hv
  refine ⟨E', ⟨?_, fun i v x h1 h2 => ?_, fun k b hb => ?_, fun k b hb => (get' k b hb).1, fun k b r hb hr => ?_, fun k b k' b' r hb hb' hr hr' => ?_, S.nh, S.a0⟩, fun v hv => ?_⟩
  · simp only; rw [homeL_len hlen, S.len]
  · obtain ⟨v0, vb, h3, rfl⟩ := homeL_get h1
    exact hV _ _ _ (S.tv i vb x h3 h2)
  · obtain ⟨_, a, b0, h1, h2⟩ := get' k b hb
    have B := S.hb _ b0 h1
    refine ⟨fun r hr => ?_, fun hv r hr => ?_, ?_⟩
    · cases hv : (b0.vec || b0.isMap) with
      | true => rw [h2.v hv] at hr; rw [h2.sh]; exact B.len r hr
      | false => exact (h2.r hv).2 r hr
    · rw [h2.vec] at hv
      rw [h2.v (by simp [hv])] at hr
      rw [h2.sh]; exact B.fits hv r hr
    · rcases B.mem with ⟨g1, g2, g3, g4⟩ | ⟨r, cs, T, g1, g2, g3, g4, g5⟩ | ⟨r, es, clk, ents, g1, g2, g3, g4, g5⟩ | ⟨r, o, mt, rows, seen, g1, g2, g3, g4, g5, g6⟩
      · exact .inl ⟨g1, by rw [h2.vec]; exact g2, by rw [h2.v (by simp [g2])]; exact g3, g4⟩
      rotate_left
      · exact .inr (.inr (.inl ⟨r, es, clk, ents, g1, g2, by simpa [Blk.isMp, Blk.isMap, h2.vec, h2.sh] using g3, by rw [h2.v (by simp [isMp_map g3])]; exact g4, g5.mono fun b hb => ⟨hA b hb, rfl⟩⟩))
      · exact .inr (.inr (.inr ⟨r, o, mt, rows, seen, g1, g2, by simpa [Blk.isMap, h2.vec, h2.sh] using g3, by simpa [Blk.isMp, Blk.isMap, h2.vec, h2.sh] using g4, by rw [h2.v (by simp [g3])]; exact g5, g6.mono fun b hb => ⟨hA b hb, rfl⟩⟩))
      · refine .inr (.inl ⟨r, cs, T, g1, g2, fun i row j v f1 f2 => ?_, fun hv => ?_, by simpa [Blk.isMap, h2.vec, h2.sh] using g5⟩)
        · rw [h2.vec, h2.sh]
          cases hv : b0.vec with
          | true =>
            rw [h2.v (by simp [hv])] at f1
            obtain ⟨x, hx, hr⟩ := g3 i row j v f1 f2
            rw [hv] at hr
            exact ⟨x, hx, by rw [if_pos rfl] at hr ⊢; exact hr.mono fun b hb => ⟨hA b hb, rfl⟩⟩
          | false =>
            rw [(h2.r (by simp [hv, g5])).1] at f1
            obtain ⟨rb, v0, vb, f3, f4, rfl⟩ := homeRows_get f1 f2
            obtain ⟨x, hx, hr⟩ := g3 i rb j vb f3 f4
            rw [hv] at hr
            exact ⟨x, hx, by rw [if_neg (by simp)] at hr ⊢; exact hV _ _ _ hr⟩
        · rw [h2.vec] at hv
          obtain ⟨cap, c1, c2, c3⟩ := g4 hv
          exact ⟨cap, by rw [h2.v (by simp [hv])]; exact c1, by rw [h2.v (by simp [hv])]; exact c2, by rw [h2.sh]; exact c3⟩
  · obtain ⟨_, a, b0, h1, h2⟩ := get' k b hb
    exact S.own _ b0 r h1 hr
  · obtain ⟨_, a, b0, h1, h2⟩ := get' k b hb
    obtain ⟨_, a', b0', h1', h2'⟩ := get' k' b' hb'
    have e := S.inj _ b0 _ b0' r h1 h1' hr hr'
    unfold srcN at e
    cases hs : srcOf mv k with
    | none =>
      cases hs' : srcOf mv k' with
      | none => rw [hs, hs'] at e; exact e
      | some c =>
        rw [hs, hs'] at e
        simp only at e
        subst e
        have := mem_dstOf (srcOf_mem hs')
        rw [h2.keep hs] at this; cases this
    | some c =>
      cases hs' : srcOf mv k' with
      | none =>
        rw [hs, hs'] at e
        simp only at e
        subst e
        have := mem_dstOf (srcOf_mem hs)
        rw [h2'.keep hs'] at this; cases this
      | some c' =>
        rw [hs, hs'] at e
        simp only at e
        subst e
        have := hu.eq (srcOf_mem hs) (srcOf_mem hs') (.inr rfl)
        exact congrArg Prod.fst this
  · obtain ⟨i, hi⟩ := List.mem_iff_getElem?.1 hv
    obtain ⟨v0, vb, h3, rfl⟩ := homeL_get hi
    exact homeV_noGd (hng vb (List.mem_of_getElem? h3))
end
end Go.Vm
