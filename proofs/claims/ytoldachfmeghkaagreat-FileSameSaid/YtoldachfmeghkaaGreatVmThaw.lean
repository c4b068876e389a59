import Derived.Test.YtoldachfmeghkaaGreatVmHome
set_option linter.unusedVariables false
namespace Go.Vm
section
variable {n0 : Nat} {A0 L : Nat → Prop} {w : World} {t : List V} {h : Heap} {a : Array Value} {E : Emb}
theorem SRel.setT (S : SRel n0 A0 L w t h a E) {i : Nat} {v : V} (hv : ∀ x, a[i]? = some x → VRel w h L E (Ab n0 A0 w h E) v x) : SRel n0 A0 L w (t.set i v) h a E := by
  refine ⟨by simp [S.len], fun j u x hu hx => ?_, S.hb, S.hl, S.own, S.inj, S.nh, S.a0⟩
  rw [List.getElem?_set] at hu
  split at hu
  · rename_i e
    subst e
    split at hu
    · cases hu; exact hv x hx
    · cases hu
  · exact S.tv j u x hu hx
theorem SRel.setRow (S : SRel n0 A0 L w t h a E) {k i j : Nat} {b : Blk} {row : List V} {u v : V} (hk : h.get k = some b) (hvec : b.vec = false) (hnm : b.isMap = false) (hrow : b.rows[i]? = some row) (hu : row[j]? = some u)
    (hv : ∀ x, VRel w h L E (Ab n0 A0 w h E) u x → VRel w h L E (Ab n0 A0 w h E) v x) : SRel n0 A0 L w t (h.ins k { b with rows := b.rows.set i (row.set j v) }) a E := by
  have gg : ∀ k' b', (h.ins k { b with rows := b.rows.set i (row.set j v) }).get k' = some b' → ∃ c, h.get k' = some c ∧ c.rows.length = b'.rows.length ∧ c.sh = b'.sh ∧ b'.fr = c.fr := by
    intro k' b' hb
    rw [Heap.get_ins] at hb
    split at hb
    · rename_i e; subst e; cases hb; exact ⟨b, hk, by simp, rfl, rfl⟩
    · exact ⟨b', hb, rfl, rfl, rfl⟩
  have hA : ∀ q, Ab n0 A0 w h E q → Ab n0 A0 w (h.ins k { b with rows := b.rows.set i (row.set j v) }) E q ∧ w.heap[q]? = w.heap[q]? := by
    refine fun q hq => ⟨⟨hq.1, hq.2.1, fun k' bl hk' hf => ?_⟩, rfl⟩
    obtain ⟨c, h1, _, _, h2⟩ := gg k' bl hk'
    exact hq.2.2 k' c h1 (by rw [← h2]; exact hf)
  have hh : ∀ k' b', L k' → (h.ins k { b with rows := b.rows.set i (row.set j v) }).get k' = some b' → ∃ b, h.get k' = some b ∧ b.rows.length ≤ b'.rows.length ∧ b.sh = b'.sh ∧ E.m k' = E.m k' ∧ E.hd k' = E.hd k' := by
    intro k' b' _ hb
    obtain ⟨c, h1, h2, h3, _⟩ := gg k' b' hb
    exact ⟨c, h1, Nat.le_of_eq h2, h3, rfl, rfl⟩
  refine S.trans (Nat.le_refl _) (fun _ h => h) hA hh (fun k' b' hb => ?_) (fun k' b' hb => ?_) (fun k' b' r hb => ?_) (fun k1 b1 k2 b2 r h1 h2 => ?_)
  · rw [Heap.get_ins] at hb
    split at hb
    · rename_i e
      subst e; cases hb
      have B := S.hb k' b hk
      have hrl := B.len row (List.mem_of_getElem? hrow)
      refine ⟨fun r hr => ?_, fun hv => (by simp only at hv; rw [hvec] at hv; cases hv), ?_⟩
      · rcases List.mem_or_eq_of_mem_set hr with hr | rfl
        · exact B.len r hr
        · simpa using hrl
      · rcases B.mem with ⟨_, h2, _⟩ | ⟨r, cs, T, h1, h2, h3, h4, h5⟩ | ⟨_, _, _, _, _, _, h5, _⟩ | ⟨_, _, _, _, _, _, _, h5, _⟩
        · rw [hvec] at h2; cases h2
        rotate_left
        · rw [isMp_map h5] at hnm; cases hnm
        · rw [hnm] at h5; cases h5
        · refine .inr (.inl ⟨r, cs, T, h1, h2, fun p rw q y g1 g2 => ?_, fun hv => (by simp only at hv; rw [hvec] at hv; cases hv), h5⟩)
          simp only at g1
          rw [List.getElem?_set] at g1
          split at g1
          · rename_i e
            subst e
            split at g1
            · cases g1
              rw [List.getElem?_set] at g2
              split at g2
              · rename_i e
                subst e
                split at g2
                · cases g2
                  obtain ⟨x, hx, hr⟩ := h3 i row j u hrow hu
                  rw [if_neg (by simp [hvec])] at hr
                  exact ⟨x, hx, by rw [if_neg (by simp [hvec])]; exact (hv x hr).mono hA (fun _ h => h) hh⟩
                · cases g2
              · obtain ⟨x, hx, hr⟩ := h3 i row q y hrow g2
                rw [if_neg (by simp [hvec])] at hr
                exact ⟨x, hx, by rw [if_neg (by simp [hvec])]; exact hr.mono hA (fun _ h => h) hh⟩
            · cases g1
          · obtain ⟨x, hx, hr⟩ := h3 p rw q y g1 g2
            rw [if_neg (by simp [hvec])] at hr
            exact ⟨x, hx, by rw [if_neg (by simp [hvec])]; exact hr.mono hA (fun _ h => h) hh⟩
    · exact (S.hb k' b' hb).mono hA (fun _ h => h) hh rfl rfl (fun _ _ => rfl)
  · obtain ⟨c, h1, _⟩ := gg k' b' hb; exact S.hl k' c h1
  · obtain ⟨c, h1, _⟩ := gg k' b' hb; exact S.own k' c r h1
  · obtain ⟨c1, g1, _⟩ := gg k1 b1 h1
    obtain ⟨c2, g2, _⟩ := gg k2 b2 h2
    exact S.inj k1 c1 k2 c2 r g1 g2
theorem SRel.newNil {n : Nat} (S : SRel n0 A0 (fun k => k < n) w t h a E) (sh : List CK) : SRel n0 A0 (fun k => k < n + 1) w t (h.ins n ⟨true, sh, [], false⟩) a (E.set n none (.slice none 0 0)) :=
  (S.new (w' := w) (id := n) (blk := ⟨true, sh, [], false⟩) (hd := .slice none 0 0) none (Nat.lt_irrefl n) (Below.refl _ _) (fun r h => by cases h) (fun r h => by cases h) (fun _ r h => by cases h) (.inl ⟨rfl, rfl, rfl, rfl⟩)).weaken fun k hk => by
    rcases hk with hk | rfl <;> omega
theorem nil_vs {n : Nat} {sh sh' : List CK} {A : Nat → Prop} {L' : Nat → Prop} (hL : L' n) {x : Value} (hx : x = .slice none 0 0) : VRel w (h.ins n ⟨true, sh, [], false⟩) L' (E.set n none (.slice none 0 0)) A (.vs n) x := by
  refine .vs n x hL (by subst hx; exact ⟨none, 0, 0, rfl⟩) fun b hb => ?_
  simp [Emb.set, hx]
theorem nils_val {L A sh x} (hv : VRel w h L E A (.nils sh) x) : x = .slice none 0 0 := by
  cases hv with
  | pure hd => cases hd
  | nils => rfl
end
section
variable {n0 : Nat} {A0 : Nat → Prop} {w : World} {s : St} {a : Array Value}
theorem SS.thaw1 (S : SS n0 A0 w s a) (i : Nat) : SS n0 A0 w (thaw1 s i) a := by
  unfold Vm.thaw1
  split
  · rename_i sh hi
    obtain ⟨E, S, hng⟩ := S
    refine ⟨_, (S.newNil sh).setT (v := .vs s.n) fun x hx => ?_, fun v hv => ?_⟩
    · exact nil_vs (n := s.n) (sh' := sh) (L' := fun k => k < s.n + 1) (Nat.lt_succ_self s.n) (nils_val (S.tv i _ x hi hx))
    · rcases List.mem_or_eq_of_mem_set hv with hv | rfl
      · exact hng v hv
      · rfl
  · exact S
theorem SS.thawC (S : SS n0 A0 w s a) (k j : Nat) : SS n0 A0 w (thawC s k j) a := by
  unfold Vm.thawC
  split
  · rename_i b hb
    cases hvec : b.vec with
    | true => exact S
    | false =>
      simp only [cond_false]
      split
      · rename_i row hrows
        split
        · rename_i sh hj
          obtain ⟨E, S, hng⟩ := S
          have hkn : k < s.n := S.hl k b hb
          refine ⟨E.set s.n none (.slice none 0 0), ?_, hng⟩
          have hrec : ∀ X : List (List V), (⟨false, b.sh, X, b.fr⟩ : Blk) = { b with rows := X } := fun X => by rw [hvec]
          simp only [hrec]
          rw [ins_ins (by omega)]
          have hrow : b.rows[0]? = some row := by rw [hrows]; rfl
          have hnm : b.isMap = false := by
            rcases (S.hb k b hb).mem with ⟨_, h1, _⟩ | ⟨_, _, _, _, _, _, _, h1⟩ | ⟨_, _, _, ents, _, _, _, h1, _⟩ | ⟨_, _, _, _, _, _, _, _, _, h1, _⟩
            · exact isMap_vec h1
            · exact h1
            · rw [hrows] at h1
              simp only [List.cons.injEq, and_true] at h1
              subst h1
              match j with
              | 0 => simp at hj
              | j + 1 => simp at hj
            · rw [hrows] at h1
              simp only [List.cons.injEq, and_true] at h1
              subst h1
              match j with
              | 0 => simp at hj
              | 1 => simp at hj
              | j + 2 => simp at hj
          have hset : [row.set j (.vs s.n)] = b.rows.set 0 (row.set j (.vs s.n)) := by rw [hrows]; rfl
          simp only [hset]
          exact (S.newNil sh).setRow (v := .vs s.n) (by rw [Heap.get_ins, if_neg (by omega)]; exact hb) hvec hnm hrow hj fun x hx => nil_vs (n := s.n) (sh' := sh) (L' := fun k => k < s.n + 1) (Nat.lt_succ_self s.n) (nils_val hx)
        · exact S
      · exact S
  · exact S
theorem keep_get {ks : List Nat} {k : Nat} {b : Blk} : ∀ {h : Heap}, (h.keep ks).get k = some b → h.get k = some b
  | [], h => by simp [Heap.keep, Heap.get] at h
  | (i, c) :: r, h => by
    simp only [Heap.keep] at h
    cases hk : ks.any (Nat.beq i) with
    | true =>
      simp only [hk, cond_true, Heap.get] at h ⊢
      cases e : Nat.beq i k with
      | true => simpa [e] using h
      | false => simp only [e, cond_false] at h ⊢; exact keep_get h
    | false =>
      simp only [hk, cond_false] at h
      have h' := keep_get h
      simp only [Heap.get]
      cases e : Nat.beq i k with
      | true =>
        have := Nat.eq_of_beq_eq_true e
        subst this
        exact absurd (keep_none h) (by simp [hk])
      | false => simpa [e] using h'
 where
  keep_none {ks : List Nat} {k : Nat} {b : Blk} : ∀ {h : Heap}, (h.keep ks).get k = some b → ks.any (Nat.beq k) = true
    | [], h => by simp [Heap.keep, Heap.get] at h
    | (i, c) :: r, h => by
      simp only [Heap.keep] at h
      cases hk : ks.any (Nat.beq i) with
      | true =>
        simp only [hk, cond_true, Heap.get] at h
        cases e : Nat.beq i k with
        | true =>
          have := Nat.eq_of_beq_eq_true e
          subst this; exact hk
        | false => simp only [e, cond_false] at h; exact keep_none h
      | false => simp only [hk, cond_false] at h; exact keep_none h
theorem SRel.sub {n0 A0 L w t h h' a E} (S : SRel n0 A0 L w t h a E) (hs : ∀ k b, h'.get k = some b → h.get k = some b) : SRel n0 A0 L w t h' a E := by
  have hA : ∀ b, Ab n0 A0 w h E b → Ab n0 A0 w h' E b ∧ w.heap[b]? = w.heap[b]? := fun b hb => ⟨⟨hb.1, hb.2.1, fun k bl hk => hb.2.2 k bl (hs k bl hk)⟩, rfl⟩
  have hV : ∀ {v x}, VRel w h L E (Ab n0 A0 w h E) v x → VRel w h' L E (Ab n0 A0 w h' E) v x := fun hv => hv.mono hA (fun _ h => h) (fun k b' _ hk => ⟨b', hs k b' hk, Nat.le_refl _, rfl, rfl, rfl⟩)
  refine ⟨S.len, fun i v x h1 h2 => hV (S.tv i v x h1 h2), fun k b hk => ?_, fun k b hk => S.hl k b (hs k b hk), fun k b r hk => S.own k b r (hs k b hk), fun k b k' b' r hk hk' => S.inj k b k' b' r (hs k b hk) (hs k' b' hk'), S.nh, S.a0⟩
  obtain ⟨h1, h2, h3⟩ := S.hb k b (hs k b hk)
  refine ⟨h1, h2, ?_⟩
  rcases h3 with h3 | ⟨r, cs, T, g1, g2, g3, g4, g5⟩ | ⟨r, es, clk, ents, g1, g2, g3, g4, g5⟩ | ⟨r, o, mt, rows, seen, g1, g2, g3, g4, g5, g6⟩
  · exact .inl h3
  rotate_left
  · exact .inr (.inr (.inl ⟨r, es, clk, ents, g1, g2, g3, g4, g5.mono hA⟩))
  · exact .inr (.inr (.inr ⟨r, o, mt, rows, seen, g1, g2, g3, g4, g5, g6.mono hA⟩))
  · refine .inr (.inl ⟨r, cs, T, g1, g2, fun i row j v e1 e2 => ?_, g4, g5⟩)
    obtain ⟨x, hx, hd⟩ := g3 i row j v e1 e2
    refine ⟨x, hx, ?_⟩
    split
    · rename_i hv; rw [if_pos hv] at hd; exact hd.mono hA
    · rename_i hv; rw [if_neg hv] at hd; exact hV hd
theorem SS.gc (S : SS n0 A0 w s a) : SS n0 A0 w s.gc a := by
  obtain ⟨E, S, hng⟩ := S
  exact ⟨E, (S.sub fun k b => keep_get).freeze _, hng⟩
theorem SS.thaw (S : SS n0 A0 w s a) : SS n0 A0 w s.thaw a := by
  unfold St.thaw
  have S := S.gc
  have h1 : ∀ (l : List Nat) (s : St), SS n0 A0 w s a → SS n0 A0 w (l.foldl Vm.thaw1 s) a := by
    intro l
    induction l with
    | nil => intro s S; exact S
    | cons i l ih => intro s S; exact ih _ (S.thaw1 i)
  have h2 : ∀ (l : List (Nat × Nat)) (s : St), SS n0 A0 w s a → SS n0 A0 w (l.foldl (fun s p => Vm.thawC s p.1 p.2) s) a := by
    intro l
    induction l with
    | nil => intro s S; exact S
    | cons p l ih => intro s S; exact ih _ (S.thawC p.1 p.2)
  exact h2 _ _ (h1 _ _ S)
theorem SS.up (S : SS n0 A0 w s a) (m : Nat) : SS n0 A0 w (s.up m) a := by
  obtain ⟨E, S, hng⟩ := S
  refine ⟨E, ?_, hng⟩
  refine S.weaken fun k hk => ?_
  show k < (bif Nat.blt s.n m then m else s.n)
  cases h : Nat.blt s.n m with
  | true => have : s.n < m := by simpa [Nat.blt_eq] using h
            simp only [cond_true]; omega
  | false => exact hk
end
end Go.Vm
