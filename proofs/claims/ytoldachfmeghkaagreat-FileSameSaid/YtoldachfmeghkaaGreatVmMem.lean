import Derived.Test.YtoldachfmeghkaaGreatVmOps
namespace Go.Vm
theorem BRel.mono {w w' : World} {h h' : Heap} {L L' : Nat → Prop} {E E' : Emb} {A A' : Nat → Prop} {k : Nat} {b : Blk} (hA : ∀ b, A b → A' b ∧ w'.heap[b]? = w.heap[b]?) (hL : ∀ k, L k → L' k)
    (hh : ∀ k b', L k → h'.get k = some b' → ∃ b, h.get k = some b ∧ b.rows.length ≤ b'.rows.length ∧ b.sh = b'.sh ∧ E'.m k = E.m k ∧ E'.hd k = E.hd k)
    (hm : E'.m k = E.m k) (hhd : E'.hd k = E.hd k) (hblk : ∀ r, E.m k = some r → w'.heap[r]? = w.heap[r]?) (B : BRel w h L E A k b) : BRel w' h' L' E' A' k b := by
  refine ⟨B.len, B.fits, ?_⟩
  rcases B.mem with ⟨h1, h2, h3, h4⟩ | ⟨r, cs, T, h1, h2, h3, h4, h5⟩ | ⟨r, es, clk, rows, h1, h2, h3, h4, h5⟩ | ⟨r, o, mt, rows, seen, h1, h2, h3, h4, h5, h6⟩
  · exact .inl ⟨hm.trans h1, h2, h3, hhd.trans h4⟩
  rotate_left
  · exact .inr (.inr (.inl ⟨r, es, clk, rows, hm.trans h1, (hblk r h1).trans h2, h3, h4, h5.mono hA⟩))
  · exact .inr (.inr (.inr ⟨r, o, mt, rows, seen, hm.trans h1, (hblk r h1).trans h2, h3, h4, h5, h6.mono hA⟩))
  · refine .inr (.inl ⟨r, cs, T, hm.trans h1, (hblk r h1).trans h2, fun i row j v g1 g2 => ?_, fun hv => ?_, h5⟩)
    · obtain ⟨x, hx, hr⟩ := h3 i row j v g1 g2
      refine ⟨x, hx, ?_⟩
      cases hvec : b.vec with
      | true => rw [hvec] at hr; exact DRel.mono hA hr
      | false => rw [hvec] at hr; exact VRel.mono hA hL hh hr
    · rw [hhd]; exact h4 hv
theorem BRel.fr {w h L E A k b} (f : Bool) (B : BRel w h L E A k b) : BRel w h L E A k { b with fr := f } := ⟨B.len, B.fits, B.mem⟩
theorem SRel.trans {n0 A0 L w t h a E} (S : SRel n0 A0 L w t h a E) {w' : World} {h' : Heap} {L' : Nat → Prop} {E' : Emb} (hsz : w.heap.size ≤ w'.heap.size) (hL : ∀ k, L k → L' k)
    (hA : ∀ b, Ab n0 A0 w h E b → Ab n0 A0 w' h' E' b ∧ w'.heap[b]? = w.heap[b]?)
    (hh : ∀ k b', L k → h'.get k = some b' → ∃ b, h.get k = some b ∧ b.rows.length ≤ b'.rows.length ∧ b.sh = b'.sh ∧ E'.m k = E.m k ∧ E'.hd k = E.hd k)
    (hB : ∀ k b', h'.get k = some b' → BRel w' h' L' E' (Ab n0 A0 w' h' E') k b') (hl : ∀ k b, h'.get k = some b → L' k)
    (own : ∀ k b r, h'.get k = some b → E'.m k = some r → n0 ≤ r ∧ r < w'.heap.size)
    (inj : ∀ k b k' b' r, h'.get k = some b → h'.get k' = some b' → E'.m k = some r → E'.m k' = some r → k = k') : SRel n0 A0 L' w' t h' a E' :=
  ⟨S.len, fun i v x h1 h2 => (S.tv i v x h1 h2).mono hA hL hh, hB, hl, own, inj, Nat.le_trans S.nh hsz, S.a0⟩
theorem freeze_get {h : Heap} {fz : List Nat} {k : Nat} {b' : Blk} (hb : (h.freeze fz).get k = some b') : ∃ b, h.get k = some b ∧ b'.rows = b.rows ∧ b'.sh = b.sh ∧ b'.vec = b.vec ∧ (b'.fr = false → b.fr = false ∧ k ∉ fz) ∧ (b' = b ∨ b' = { b with fr := true }) := by
  rw [Heap.get_freeze] at hb
  obtain ⟨b, hb1, rfl⟩ := Option.map_eq_some_iff.1 hb
  refine ⟨b, hb1, ?_⟩
  by_cases hf : fz.any (Nat.beq k) = true
  · simp [hf]
  · refine ⟨by simp [hf], by simp [hf], by simp [hf], fun h => ⟨by simpa [hf] using h, fun hm => hf ?_⟩, .inl (by simp [hf])⟩
    exact List.any_eq_true.2 ⟨k, hm, by simp⟩
theorem Ab.freeze {n0 A0 w h E b} (fz : List Nat) (hb : Ab n0 A0 w h E b) : Ab n0 A0 w (h.freeze fz) E b := by
  refine ⟨hb.1, hb.2.1, fun k bl hk hf => ?_⟩
  obtain ⟨b0, h0, _, _, _, h3, _⟩ := freeze_get hk
  exact hb.2.2 k b0 h0 (h3 hf).1
theorem freeze_hh {h : Heap} {fz : List Nat} {E : Emb} {L : Nat → Prop} : ∀ k b', L k → (h.freeze fz).get k = some b' → ∃ b, h.get k = some b ∧ b.rows.length ≤ b'.rows.length ∧ b.sh = b'.sh ∧ E.m k = E.m k ∧ E.hd k = E.hd k := by
  intro k b' _ hb
  obtain ⟨b, h0, h1, h2, _⟩ := freeze_get hb
  exact ⟨b, h0, by rw [h1]; exact Nat.le_refl _, h2.symm, rfl, rfl⟩
theorem VRel.freeze {n0 A0 w h L E v x} (fz : List Nat) (hv : VRel w h L E (Ab n0 A0 w h E) v x) : VRel w (h.freeze fz) L E (Ab n0 A0 w (h.freeze fz) E) v x :=
  hv.mono (fun b hb => ⟨hb.freeze fz, rfl⟩) (fun _ h => h) freeze_hh
theorem SRel.freeze {n0 A0 L w t h a E} (S : SRel n0 A0 L w t h a E) (fz : List Nat) : SRel n0 A0 L w t (h.freeze fz) a E := by
  refine S.trans (Nat.le_refl _) (fun _ h => h) (fun b hb => ⟨hb.freeze fz, rfl⟩) freeze_hh (fun k b' hb => ?_) (fun k b hb => ?_) (fun k b r hb => ?_) (fun k b k' b' r hb hb' => ?_)
  · obtain ⟨b, h0, _, _, _, _, h4⟩ := freeze_get hb
    have B := (S.hb k b h0).mono (w' := w) (h' := h.freeze fz) (L' := L) (E' := E) (A' := Ab n0 A0 w (h.freeze fz) E) (fun b hb => ⟨hb.freeze fz, rfl⟩) (fun _ h => h) freeze_hh rfl rfl (fun _ _ => rfl)
    rcases h4 with rfl | rfl
    · exact B
    · exact B.fr true
  · obtain ⟨b, h0, _⟩ := freeze_get hb; exact S.hl k b h0
  · obtain ⟨b, h0, _⟩ := freeze_get hb; exact S.own k b r h0
  · obtain ⟨b, h0, _⟩ := freeze_get hb
    obtain ⟨b', h0', _⟩ := freeze_get hb'
    exact S.inj k b k' b' r h0 h0'
theorem SRel.grow {n0 A0 L w t h a E} (S : SRel n0 A0 L w t h a E) {w' : World} (hw : Below w.heap.size w w') : SRel n0 A0 L w' t h a E := by
  have hA : ∀ b, Ab n0 A0 w h E b → Ab n0 A0 w' h E b ∧ w'.heap[b]? = w.heap[b]? := fun b hb => ⟨⟨hb.1, Nat.lt_of_lt_of_le hb.2.1 hw.size, hb.2.2⟩, hw.block b hb.2.1⟩
  have hh : ∀ k b', L k → h.get k = some b' → ∃ b, h.get k = some b ∧ b.rows.length ≤ b'.rows.length ∧ b.sh = b'.sh ∧ E.m k = E.m k ∧ E.hd k = E.hd k :=
    fun k b' _ hb => ⟨b', hb, Nat.le_refl _, rfl, rfl, rfl⟩
  exact S.trans hw.size (fun _ h => h) hA hh (fun k b' hb => (S.hb k b' hb).mono hA (fun _ h => h) hh rfl rfl (fun r hr => hw.block r (S.own k b' r hb hr).2)) S.hl
    (fun k b r h1 h2 => ⟨(S.own k b r h1 h2).1, Nat.lt_of_lt_of_le (S.own k b r h1 h2).2 hw.size⟩) S.inj
theorem VRel.grow {n0 A0 L w h E v x} {w' : World} (hw : Below w.heap.size w w') (hv : VRel w h L E (Ab n0 A0 w h E) v x) : VRel w' h L E (Ab n0 A0 w' h E) v x :=
  hv.mono (fun b hb => ⟨⟨hb.1, Nat.lt_of_lt_of_le hb.2.1 hw.size, hb.2.2⟩, hw.block b hb.2.1⟩) (fun _ h => h) (fun k b' _ hb => ⟨b', hb, Nat.le_refl _, rfl, rfl, rfl⟩)
def Emb.set (E : Emb) (id : Nat) (m : Option Nat) (hd : Value) : Emb := ⟨fun k => if k = id then m else E.m k, fun k => if k = id then hd else E.hd k⟩
theorem new_hh {h : Heap} {id : Nat} {blk : Blk} {E : Emb} {L : Nat → Prop} {m hd} (hid : ¬ L id) : ∀ k b', L k → (h.ins id blk).get k = some b' → ∃ b, h.get k = some b ∧ b.rows.length ≤ b'.rows.length ∧ b.sh = b'.sh ∧ (E.set id m hd).m k = E.m k ∧ (E.set id m hd).hd k = E.hd k := by
  intro k b' hk hb
  have hne : k ≠ id := fun e => hid (e ▸ hk)
  rw [Heap.get_ins, if_neg hne] at hb
  exact ⟨b', hb, Nat.le_refl _, rfl, by simp [Emb.set, hne], by simp [Emb.set, hne]⟩
theorem SRel.new {n0 A0 L w t h a E} (S : SRel n0 A0 L w t h a E) {w' : World} {id : Nat} {blk : Blk} {hd : Value} (m : Option Nat) (hid : ¬ L id)
    (hw : Below w.heap.size w w') (hm : ∀ r, m = some r → r = w.heap.size ∧ w.heap.size < w'.heap.size)
    (hlen : ∀ r ∈ blk.rows, r.length = blk.sh.length) (hfit : blk.vec = true → ∀ r ∈ blk.rows, FitsL blk.sh r)
    (hmem : (m = none ∧ blk.vec = true ∧ blk.rows = [] ∧ hd = .slice none 0 0) ∨
      ∃ r cs T, m = some r ∧ w'.heap[r]? = some (.cells cs T (0, 0)) ∧
        (∀ (i : Nat) (row : List V) (j : Nat) (v : V), blk.rows[i]? = some row → row[j]? = some v → ∃ x, cs[i * blk.sh.length + j]? = some x ∧ (if blk.vec then DRel w (Ab n0 A0 w h E) v x else VRel w h L E (Ab n0 A0 w h E) v x)) ∧
        (blk.vec = true → ∃ cap, hd = .slice (some ⟨r, 0, none⟩) blk.rows.length cap ∧ blk.rows.length ≤ cap ∧ cap * blk.sh.length ≤ cs.size)) (hnm : blk.isMap = false := by rfl) :
    SRel n0 A0 (fun k => L k ∨ k = id) w' t (h.ins id blk) a (E.set id m hd) := by
  have hA : ∀ b, Ab n0 A0 w h E b → Ab n0 A0 w' (h.ins id blk) (E.set id m hd) b ∧ w'.heap[b]? = w.heap[b]? := by
    refine fun b hb => ⟨⟨hb.1, Nat.lt_of_lt_of_le hb.2.1 hw.size, fun k bl hk hf => ?_⟩, hw.block b hb.2.1⟩
    rw [Heap.get_ins] at hk
    by_cases e : k = id
    · subst e
      simp only [Emb.set, if_true]
      intro hmb
      have := (hm b hmb).1
      have := hb.2.1
      omega
    · rw [if_neg e] at hk
      simp only [Emb.set, if_neg e]
      exact hb.2.2 k bl hk hf
  have hh := new_hh (h := h) (blk := blk) (E := E) (m := m) (hd := hd) hid
  refine S.trans hw.size (fun k h => .inl h) hA hh (fun k b' hb => ?_) (fun k b hb => ?_) (fun k b r hb hr => ?_) (fun k b k' b' r hb hb' hr hr' => ?_)
  · rw [Heap.get_ins] at hb
    by_cases e : k = id
    · subst e
      rw [if_pos rfl] at hb
      cases hb
      refine ⟨hlen, hfit, ?_⟩
      rcases hmem with ⟨h1, h2, h3, h4⟩ | ⟨r, cs, T, h1, h2, h3, h4⟩
      · exact .inl ⟨by simp [Emb.set, h1], h2, h3, by simp [Emb.set, h4]⟩
      · refine .inr (.inl ⟨r, cs, T, by simp [Emb.set, h1], h2, fun i row j v g1 g2 => ?_, fun hv => ?_, hnm⟩)
        · obtain ⟨x, hx, hr⟩ := h3 i row j v g1 g2
          refine ⟨x, hx, ?_⟩
          cases hvec : blk.vec with
          | true => rw [hvec] at hr; exact DRel.mono hA hr
          | false => rw [hvec] at hr; exact VRel.mono hA (fun k h => .inl h) hh hr
        · obtain ⟨cap, c1, c2, c3⟩ := h4 hv
          exact ⟨cap, by simp [Emb.set, c1], c2, c3⟩
    · rw [if_neg e] at hb
      exact (S.hb k b' hb).mono hA (fun k h => .inl h) hh (by simp [Emb.set, e]) (by simp [Emb.set, e]) (fun r hr => hw.block r (S.own k b' r hb hr).2)
  · rw [Heap.get_ins] at hb
    by_cases e : k = id
    · exact .inr e
    · rw [if_neg e] at hb; exact .inl (S.hl k b hb)
  · rw [Heap.get_ins] at hb
    by_cases e : k = id
    · subst e
      simp only [Emb.set, if_true] at hr
      have h1 := hm r hr
      have h2 := S.nh
      exact ⟨by omega, by omega⟩
    · rw [if_neg e] at hb
      simp only [Emb.set, if_neg e] at hr
      have := S.own k b r hb hr
      have := hw.size
      exact ⟨by omega, by omega⟩
  · rw [Heap.get_ins] at hb hb'
    by_cases e : k = id
    · by_cases e' : k' = id
      · rw [e, e']
      · rw [if_neg e'] at hb'
        simp only [Emb.set, if_pos e] at hr
        simp only [Emb.set, if_neg e'] at hr'
        have h1 := (hm r hr).1
        have h2 := (S.own k' b' r hb' hr').2
        omega
    · rw [if_neg e] at hb
      simp only [Emb.set, if_neg e] at hr
      by_cases e' : k' = id
      · simp only [Emb.set, if_pos e'] at hr'
        have h1 := (hm r hr').1
        have h2 := (S.own k b r hb hr).2
        omega
      · rw [if_neg e'] at hb'
        simp only [Emb.set, if_neg e'] at hr'
        exact S.inj k b k' b' r hb hb' hr hr'
theorem SRel.store {n0 A0 L w t h a E} (S : SRel n0 A0 L w t h a E) {w' : World} {k : Nat} {b : Blk} {rows : List (List V)} {r : Nat} {cs cs' : Array Value} {T : TypeId} (hk : h.get k = some b) (hfr : b.fr = false) (hr : E.m k = some r)
    (hcs : w.heap[r]? = some (.cells cs T (0, 0))) (hcs' : w'.heap[r]? = some (.cells cs' T (0, 0))) (hsz : w'.heap.size = w.heap.size) (hsz' : cs'.size = cs.size) (hother : ∀ q, q ≠ r → w'.heap[q]? = w.heap[q]?)
    (hlen : ∀ r ∈ rows, r.length = b.sh.length) (hfit : b.vec = true → ∀ r ∈ rows, FitsL b.sh r) (hrl : rows.length = b.rows.length)
    (hmem : ∀ (i : Nat) (row : List V) (j : Nat) (v : V), rows[i]? = some row → row[j]? = some v → ∃ x, cs'[i * b.sh.length + j]? = some x ∧ (if b.vec then DRel w (Ab n0 A0 w h E) v x else VRel w h L E (Ab n0 A0 w h E) v x)) :
    SRel n0 A0 L w' t (h.ins k { b with rows := rows }) a E := by
  have hA : ∀ q, Ab n0 A0 w h E q → Ab n0 A0 w' (h.ins k { b with rows := rows }) E q ∧ w'.heap[q]? = w.heap[q]? := by
    refine fun q hq => ⟨⟨hq.1, by rw [hsz]; exact hq.2.1, fun k' bl hk' hf => ?_⟩, hother q fun e => hq.2.2 k b hk hfr (by rw [e]; exact hr)⟩
    rw [Heap.get_ins] at hk'
    by_cases e : k' = k
    · subst e; exact hq.2.2 k' b hk hfr
    · rw [if_neg e] at hk'; exact hq.2.2 k' bl hk' hf
  have hh : ∀ k' b', L k' → (h.ins k { b with rows := rows }).get k' = some b' → ∃ b, h.get k' = some b ∧ b.rows.length ≤ b'.rows.length ∧ b.sh = b'.sh ∧ E.m k' = E.m k' ∧ E.hd k' = E.hd k' := by
    intro k' b' _ hb
    rw [Heap.get_ins] at hb
    by_cases e : k' = k
    · subst e
      rw [if_pos rfl] at hb; cases hb
      exact ⟨b, hk, by simp [hrl], rfl, rfl, rfl⟩
    · rw [if_neg e] at hb; exact ⟨b', hb, Nat.le_refl _, rfl, rfl, rfl⟩
  have gg : ∀ k' b', (h.ins k { b with rows := rows }).get k' = some b' → ∃ b, h.get k' = some b := by
    intro k' b' hb
    rw [Heap.get_ins] at hb
    by_cases e : k' = k
    · subst e; exact ⟨b, hk⟩
    · rw [if_neg e] at hb; exact ⟨b', hb⟩
  refine S.trans (by omega) (fun _ h => h) hA hh (fun k' b' hb => ?_) (fun k' b' hb => ?_) (fun k' b' r' hb hr' => ?_) (fun k1 b1 k2 b2 r' h1 h2 => ?_)
  · rw [Heap.get_ins] at hb
    by_cases e : k' = k
    · subst e
      rw [if_pos rfl] at hb; cases hb
      have hnm : b.isMap = false := by
        rcases (S.hb k' b hk).mem with ⟨_, h1, _⟩ | ⟨_, _, _, _, _, _, _, h1⟩ | ⟨r2, es, clk, _, h1, h2, _, _⟩ | ⟨r2, o, _, _, _, h1, h2, _, _, _, h6⟩
        · exact isMap_vec h1
        · exact h1
        · rw [hr] at h1; cases h1
          rw [hcs] at h2; cases h2
        · rw [hr] at h1; cases h1
          rw [hcs] at h2; cases h2
          exact h6.noCells.elim
      refine ⟨hlen, hfit, .inr (.inl ⟨r, cs', T, hr, hcs', fun i row j v g1 g2 => ?_, fun hv => ?_, hnm⟩)⟩
      · obtain ⟨x, hx, hrr⟩ := hmem i row j v g1 g2
        refine ⟨x, hx, ?_⟩
        show (if b.vec = true then DRel w' _ v x else VRel w' _ _ _ _ v x)
        by_cases hvec : b.vec = true
        · rw [if_pos hvec] at hrr ⊢; exact DRel.mono hA hrr
        · rw [if_neg hvec] at hrr ⊢; exact VRel.mono hA (fun _ h => h) hh hrr
      · rcases (S.hb k' b hk).memV hnm with ⟨h1, _⟩ | ⟨r2, cs2, T2, h1, h2, _, h4⟩
        · rw [hr] at h1; cases h1
        · rw [hr] at h1; cases h1
          rw [hcs] at h2; cases h2
          obtain ⟨cap, c1, c2, c3⟩ := h4 hv
          exact ⟨cap, by simp only [hrl]; exact c1, by simp only [hrl]; exact c2, by rw [hsz']; exact c3⟩
    · rw [if_neg e] at hb
      refine (S.hb k' b' hb).mono hA (fun _ h => h) hh rfl rfl (fun r' hr' => hother r' fun e2 => ?_)
      subst e2
      exact e (S.inj k' b' k b r' hb hk hr' hr)
  · obtain ⟨b0, h0⟩ := gg k' b' hb; exact S.hl k' b0 h0
  · obtain ⟨b0, h0⟩ := gg k' b' hb
    have := S.own k' b0 r' h0 hr'
    exact ⟨this.1, by omega⟩
  · obtain ⟨c1, g1⟩ := gg k1 b1 h1
    obtain ⟨c2, g2⟩ := gg k2 b2 h2
    exact S.inj k1 c1 k2 c2 r' g1 g2
theorem SRel.app {n0 A0 L w t h a E} (S : SRel n0 A0 L w t h a E) {w' : World} {k id : Nat} {b blk : Blk} {r : Nat} {cs : Array Value} {T : TypeId} {hd : Value} (hk : h.get k = some b) (hfr : b.fr = false) (hid : ¬ L id)
    (hr : E.m k = some r ∨ r = w.heap.size) (hcs : w'.heap[r]? = some (.cells cs T (0, 0))) (hsz : w.heap.size ≤ w'.heap.size) (hother : ∀ q, q < w.heap.size → q ≠ r → w'.heap[q]? = w.heap[q]?)
    (hlen : ∀ r ∈ blk.rows, r.length = blk.sh.length) (hfit : blk.vec = true → ∀ r ∈ blk.rows, FitsL blk.sh r) (hvec : blk.vec = true)
    (hmem : ∀ (i : Nat) (row : List V) (j : Nat) (v : V), blk.rows[i]? = some row → row[j]? = some v → ∃ x, cs[i * blk.sh.length + j]? = some x ∧ DRel w (Ab n0 A0 w h E) v x)
    (hhd : ∃ cap, hd = .slice (some ⟨r, 0, none⟩) blk.rows.length cap ∧ blk.rows.length ≤ cap ∧ cap * blk.sh.length ≤ cs.size) :
    SRel n0 A0 (fun k => L k ∨ k = id) w' t ((h.del k).ins id blk) a (E.set id (some r) hd) := by
  have get' : ∀ k' b', ((h.del k).ins id blk).get k' = some b' → (k' = id ∧ b' = blk) ∨ (k' ≠ id ∧ k' ≠ k ∧ h.get k' = some b') := by
    intro k' b' hb
    rw [Heap.get_ins] at hb
    by_cases e : k' = id
    · rw [if_pos e] at hb; cases hb; exact .inl ⟨e, rfl⟩
    · rw [if_neg e, Heap.get_del] at hb
      by_cases e2 : k' = k
      · rw [if_pos e2] at hb; cases hb
      · rw [if_neg e2] at hb; exact .inr ⟨e, e2, hb⟩
  have hrlt : r < w'.heap.size := (Array.getElem?_eq_some_iff.1 hcs).1
  have hne : ∀ k' b', h.get k' = some b' → k' ≠ k → E.m k' ≠ some r := by
    intro k' b' hb hkk hm
    rcases hr with hr | hr
    · exact hkk (S.inj k' b' k b r hb hk hm hr)
    · have := (S.own k' b' r hb hm).2; omega
  have hA : ∀ q, Ab n0 A0 w h E q → Ab n0 A0 w' ((h.del k).ins id blk) (E.set id (some r) hd) q ∧ w'.heap[q]? = w.heap[q]? := by
    intro q hq
    have hqr : q ≠ r := by
      intro e; subst e
      rcases hr with hr | hr
      · exact hq.2.2 k b hk hfr hr
      · have := hq.2.1; omega
    refine ⟨⟨hq.1, Nat.lt_of_lt_of_le hq.2.1 hsz, fun k' bl hk' hf => ?_⟩, hother q hq.2.1 hqr⟩
    rcases get' k' bl hk' with ⟨e, _⟩ | ⟨e1, e2, hb⟩
    · simp only [Emb.set, if_pos e]; intro h; exact hqr (Option.some.inj h).symm
    · simp only [Emb.set, if_neg e1]; exact hq.2.2 k' bl hb hf
  have hh : ∀ k' b', L k' → ((h.del k).ins id blk).get k' = some b' → ∃ b, h.get k' = some b ∧ b.rows.length ≤ b'.rows.length ∧ b.sh = b'.sh ∧ (E.set id (some r) hd).m k' = E.m k' ∧ (E.set id (some r) hd).hd k' = E.hd k' := by
    intro k' b' hL hb
    rcases get' k' b' hb with ⟨e, _⟩ | ⟨e1, e2, hb⟩
    · exact absurd (e ▸ hL) hid
    · exact ⟨b', hb, Nat.le_refl _, rfl, by simp [Emb.set, e1], by simp [Emb.set, e1]⟩
  refine S.trans hsz (fun k h => .inl h) hA hh (fun k' b' hb => ?_) (fun k' b' hb => ?_) (fun k' b' r' hb hr' => ?_) (fun k1 b1 k2 b2 r' h1 h2 hr1 hr2 => ?_)
  · rcases get' k' b' hb with ⟨rfl, rfl⟩ | ⟨e1, e2, hb⟩
    · refine ⟨hlen, hfit, .inr (.inl ⟨r, cs, T, by simp [Emb.set], hcs, fun i row j v g1 g2 => ?_, fun _ => ?_, isMap_vec hvec⟩)⟩
      · obtain ⟨x, hx, hd⟩ := hmem i row j v g1 g2
        exact ⟨x, hx, by rw [if_pos hvec]; exact DRel.mono hA hd⟩
      · obtain ⟨cap, c1, c2, c3⟩ := hhd
        exact ⟨cap, by simp [Emb.set, c1], c2, c3⟩
    · exact (S.hb k' b' hb).mono hA (fun k h => .inl h) hh (by simp [Emb.set, e1]) (by simp [Emb.set, e1]) (fun r' hr' => hother r' (S.own k' b' r' hb hr').2 fun e => hne k' b' hb e2 (e ▸ hr'))
  · rcases get' k' b' hb with ⟨rfl, rfl⟩ | ⟨e1, e2, hb⟩
    · exact .inr rfl
    · exact .inl (S.hl k' b' hb)
  · rcases get' k' b' hb with ⟨rfl, rfl⟩ | ⟨e1, e2, hb⟩
    · simp only [Emb.set, if_true, Option.some.injEq] at hr'
      subst hr'
      refine ⟨?_, hrlt⟩
      rcases hr with hr | hr
      · exact (S.own k b r hk hr).1
      · have := S.nh; omega
    · simp only [Emb.set, if_neg e1] at hr'
      have := S.own k' b' r' hb hr'
      exact ⟨this.1, by omega⟩
  · rcases get' k1 b1 h1 with ⟨e, _⟩ | ⟨e1, e2, hb⟩
    · rcases get' k2 b2 h2 with ⟨e', _⟩ | ⟨e1', e2', hb'⟩
      · rw [e, e']
      · simp only [Emb.set, if_pos e, Option.some.injEq] at hr1
        simp only [Emb.set, if_neg e1'] at hr2
        subst hr1
        exact absurd hr2 (hne k2 b2 hb' e2')
    · simp only [Emb.set, if_neg e1] at hr1
      rcases get' k2 b2 h2 with ⟨e', _⟩ | ⟨e1', e2', hb'⟩
      · simp only [Emb.set, if_pos e', Option.some.injEq] at hr2
        subst hr2
        exact absurd hr1 (hne k1 b1 hb e2)
      · simp only [Emb.set, if_neg e1'] at hr2
        exact S.inj k1 b1 k2 b2 r' hb hb' hr1 hr2
end Go.Vm
