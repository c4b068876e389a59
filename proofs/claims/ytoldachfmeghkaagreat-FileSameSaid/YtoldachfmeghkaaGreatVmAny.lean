import Derived.Test.YtoldachfmeghkaaGreatVmReg
namespace Go.Vm
section
variable {P : Program}
def InL (L : Nat → Prop) (v : V) : Prop := ∀ k ∈ V.refs v, L k
def HL (L : Nat → Prop) (h : Heap) : Prop := ∀ k b, h.get k = some b → b.vec = false → ∀ row ∈ b.rows, ∀ v ∈ row, InL L v
theorem bif_or {c : Bool} {x : OR} {v e fz} (h : (bif c then x else OR.fail) = ⟨true, v, e, fz⟩) : c = true ∧ x = ⟨true, v, e, fz⟩ := by
  cases c with
  | true => exact ⟨rfl, h⟩
  | false => simp [OR.fail] at h
theorem opNext_iff {h : Heap} {x : V} {v e fz} (hr : opNext h x = ⟨true, v, e, fz⟩) : fz = [] ∧ (∃ a c, v = .tup [.bool true, .int .i64 a, .int .i32 c] ∨ v = .tup [.bool false]) ∧
    (e = .none ∨ ∃ (k : Nat) (b : Blk) (s : ByteArray) (p : Int), x = .ptr k 0 0 ∧ h.get k = some b ∧ e = .put k { b with rows := [[.it 0 [[.str s, .int .i64 p]] [], .undef]] }) := by
  unfold opNext at hr
  split at hr
  · rename_i k
    split at hr
    · rename_i b hb
      split at hr
      · rename_i s pos u _
        obtain ⟨_, hr⟩ := bif_or hr
        cases hlt : Nat.blt pos.toNat s.size with
        | true =>
          simp only [hlt, cond_true, OR.mk.injEq] at hr
          obtain ⟨_, rfl, rfl, rfl⟩ := hr
          exact ⟨rfl, ⟨_, _, .inl rfl⟩, .inr ⟨k, b, s, _, rfl, hb, rfl⟩⟩
        | false =>
          simp only [hlt, cond_false, OR.val, OR.mk.injEq] at hr
          obtain ⟨_, rfl, rfl, rfl⟩ := hr
          exact ⟨rfl, ⟨0, 0, .inr rfl⟩, .inl rfl⟩
      · simp [OR.fail] at hr
    · simp [OR.fail] at hr
  · simp [OR.fail] at hr
theorem nilsTy_refs (P : Program) (t : TypeId) (v : V) : V.refs (nilsTy P t v) = V.refs v := by
  unfold nilsTy
  split
  · cases slT P t <;> rfl
  · rfl
theorem inL_nils {L : Nat → Prop} {P : Program} {t : TypeId} {v : V} (h : InL L v) : InL L (nilsTy P t v) := by
  unfold InL
  rw [nilsTy_refs]
  exact h
theorem refsL_mem {k : Nat} : ∀ {l : List V}, k ∈ V.refsL l → ∃ v ∈ l, k ∈ V.refs v
  | [], h => by simp [V.refsL] at h
  | u :: r, h => by
    rw [V.refsL, List.mem_append] at h
    rcases h with h | h
    · exact ⟨u, by simp, h⟩
    · obtain ⟨v, hv, hk⟩ := refsL_mem h
      exact ⟨v, List.mem_cons_of_mem _ hv, hk⟩
theorem DRel.norefs {w A v x} (hd : DRel w A v x) : V.refs v = [] := by
  have key : ∀ (cs : List V) (xs : Array Value), cs.length = xs.size → (∀ (i : Nat) (v : V) (x : Value), cs[i]? = some v → xs[i]? = some x → V.refs v = []) → V.refsL cs = [] := by
    intro cs xs hl h
    apply List.eq_nil_iff_forall_not_mem.2
    intro k hk
    obtain ⟨v, hv, hkv⟩ := refsL_mem hk
    obtain ⟨i, hi⟩ := List.mem_iff_getElem?.1 hv
    have hlt : i < xs.size := by have := (List.getElem?_eq_some_iff.1 hi).1; omega
    rw [h i v _ hi (Array.getElem?_eq_getElem hlt)] at hkv
    cases hkv
  induction hd with
  | agg cs xs h _ ih => rw [V.refs]; exact key cs xs h ih
  | tup cs xs h _ ih => rw [V.refs]; exact key cs xs h ih
  | fn g cs xs h _ ih => rw [V.refs]; exact key cs xs h ih
  | _ => rfl
theorem VRel.inL {w h L E A v x} (hv : VRel w h L E A v x) : InL L v := by
  have key : ∀ (cs : List V) (xs : Array Value), cs.length = xs.size → (∀ (i : Nat) (v : V) (x : Value), cs[i]? = some v → xs[i]? = some x → InL L v) → ∀ k ∈ V.refsL cs, L k := by
    intro cs xs hl h k hk
    obtain ⟨v, hv, hkv⟩ := refsL_mem hk
    obtain ⟨i, hi⟩ := List.mem_iff_getElem?.1 hv
    have hlt : i < xs.size := by have := (List.getElem?_eq_some_iff.1 hi).1; omega
    exact h i v _ hi (Array.getElem?_eq_getElem hlt) k hkv
  induction hv with
  | pure hd => intro k hk; rw [hd.norefs] at hk; cases hk
  | agg cs xs h _ ih => intro k hk; rw [V.refs] at hk; exact key cs xs h ih k hk
  | tup cs xs h _ ih => intro k hk; rw [V.refs] at hk; exact key cs xs h ih k hk
  | fn g cs xs h _ ih => intro k hk; rw [V.refs] at hk; exact key cs xs h ih k hk
  | nils sh => intro k hk; simp [V.refs] at hk
  | vs k x hL => intro k' hk; simp [V.refs] at hk; subst hk; exact hL
  | sub k lo hi x hL => intro k' hk; simp [V.refs] at hk; subst hk; exact hL
  | ptr k i j x hL => intro k' hk; simp [V.refs] at hk; subst hk; exact hL
  | mp k x hL => intro k' hk; simp [V.refs] at hk; subst hk; exact hL
  | gd => intro k hk; simp [V.refs] at hk
theorem SRel.hL {n0 A0 L w t h a E} (S : SRel n0 A0 L w t h a E) : HL L h := by
  intro k b hb hvec row hrow v hv
  obtain ⟨i, hi⟩ := List.mem_iff_getElem?.1 hrow
  obtain ⟨j, hj⟩ := List.mem_iff_getElem?.1 hv
  rcases (S.hb k b hb).mem with ⟨_, _, h0, _⟩ | ⟨r, cs, T, hm, hw, hcell, _⟩ | ⟨r, es, clk, ents, _, _, _, h0, _⟩ | ⟨r, o, mt, rows, seen, _, _, _, _, h0, _⟩
  rotate_right
  · rw [h0] at hi
    match i with
    | 0 =>
      simp only [List.getElem?_cons_zero, Option.some.injEq] at hi
      subst hi
      match j with
      | 0 => simp only [List.getElem?_cons_zero, Option.some.injEq] at hj; subst hj; intro k hk; simp [V.refs] at hk
      | 1 => simp at hj; subst hj; intro k hk; simp [V.refs] at hk
      | j + 2 => simp at hj
    | i + 1 => simp at hi
  rotate_right
  · rw [h0] at hi
    match i with
    | 0 =>
      simp only [List.getElem?_cons_zero, Option.some.injEq] at hi
      subst hi
      match j with
      | 0 => simp only [List.getElem?_cons_zero, Option.some.injEq] at hj; subst hj; intro k hk; simp [V.refs] at hk
      | j + 1 => simp at hj
    | i + 1 => simp at hi
  · rw [h0] at hi; simp at hi
  · obtain ⟨x, _, hr⟩ := hcell i row j v hi hj
    rw [if_neg (by simp [hvec])] at hr
    exact hr.inL
mutual
theorem under_refs {n : Nat} : ∀ (v : V), V.under n v = true → ∀ k ∈ V.refs v, k < n
  | .vs k, h, k', hk => by simp [V.refs] at hk; subst hk; simpa [V.under, Nat.blt_eq] using h
  | .ptr k _ _, h, k', hk => by simp [V.refs] at hk; subst hk; simpa [V.under, Nat.blt_eq] using h
  | .sub k _ _, h, k', hk => by simp [V.refs] at hk; subst hk; simpa [V.under, Nat.blt_eq] using h
  | .mp k, h, k', hk => by simp [V.refs] at hk; subst hk; simpa [V.under, Nat.blt_eq] using h
  | .mdat _, _, k, hk => by simp [V.refs] at hk
  | .unk, _, k, hk => by simp [V.refs] at hk
  | .it _ _ _, _, k, hk => by simp [V.refs] at hk
  | .agg cs, h, k, hk => by rw [V.refs] at hk; rw [V.under] at h; exact under_refsL cs h k hk
  | .tup cs, h, k, hk => by rw [V.refs] at hk; rw [V.under] at h; exact under_refsL cs h k hk
  | .fn _ cs, h, k, hk => by rw [V.refs] at hk; rw [V.under] at h; exact under_refsL cs h k hk
  | .undef, _, k, hk => by simp [V.refs] at hk
  | .int _ _, _, k, hk => by simp [V.refs] at hk
  | .bool _, _, k, hk => by simp [V.refs] at hk
  | .str _, _, k, hk => by simp [V.refs] at hk
  | .nils _, _, k, hk => by simp [V.refs] at hk
  | .nilp, _, k, hk => by simp [V.refs] at hk
  | .data _ _, _, k, hk => by simp [V.refs] at hk
  | .pdat _ _ _, _, k, hk => by simp [V.refs] at hk
  | .gd _ _ _, _, k, hk => by simp [V.refs] at hk
theorem under_refsL {n : Nat} : ∀ (l : List V), V.underL n l = true → ∀ k ∈ V.refsL l, k < n
  | [], _, k, hk => by simp [V.refsL] at hk
  | v :: r, h, k, hk => by
    rw [V.underL, Bool.and_eq_true] at h
    rw [V.refsL, List.mem_append] at hk
    rcases hk with hk | hk
    · exact under_refs v h.1 k hk
    · exact under_refsL r h.2 k hk
end
theorem evT_inL {n0 A0 L G base w t h a E} (R : RS n0 A0 L G base w t h a E) (hb : ∀ k, k < base → L k) (g : List (Nat × Bool)) (x : Operand) : InL L (evT t g x) := by
  cases x with
  | tmp d =>
    simp only [evT]
    by_cases hd : d < t.length
    · have h1 := getD_of (d := V.undef) hd
      split
      · rename_i j q v hgd
        cases g.any (fun p => Nat.beq j p.1 && (q == p.2)) with
        | false => intro k hk; simp [V.refs] at hk
        | true =>
          simp only [cond_true]
          rw [hgd] at h1
          intro k hk
          exact hb k (under_refs v (R.tag d j q v h1).2 k hk)
      · rename_i hng
        have hlen : t.length = a.size := by have := R.s.len; simpa using this
        have hv := R.s.tv d (res a (t.getD d .undef)) _ (by rw [List.getElem?_map, h1]; rfl) (Array.getElem?_eq_getElem (hlen ▸ hd))
        have : res a (t.getD d .undef) = t.getD d .undef := by
          generalize t.getD d .undef = u at hng
          cases u <;> first | rfl | (exact (hng _ _ _ rfl).elim)
        rw [this] at hv
        exact hv.inL
    · have : t.getD d .undef = .undef := by simp [List.getD_eq_getElem?_getD, List.getElem?_eq_none (Nat.le_of_not_lt hd)]
      rw [this]; intro k hk; simp [V.refs] at hk
  | const v =>
    intro k hk
    simp only [evT, ofValue_refs] at hk
    cases hk
  | global g => intro k hk; simp [evT, V.refs] at hk
  | func f => intro k hk; simp [evT, V.refs, V.refsL] at hk
def CoreEq (L : Nat → Prop) (h h1 : Heap) : Prop := ∀ k, L k → (h.get k = none ∧ h1.get k = none) ∨ ∃ b b1, h.get k = some b ∧ h1.get k = some b1 ∧ b1.vec = b.vec ∧ b1.sh = b.sh ∧ b1.rows = b.rows
def ExEq (L : Nat → Prop) (h h1 : Heap) : Prop := ∀ k, L k → h1.get k = h.get k
def ShapeEq (L : Nat → Prop) (h h1 : Heap) : Prop := ∀ k, L k → (h.get k = none ∧ h1.get k = none) ∨ ∃ b b1, h.get k = some b ∧ h1.get k = some b1 ∧ b1.vec = b.vec ∧ b1.sh = b.sh ∧ b1.rows.length = b.rows.length
theorem ExEq.core {L h h1} (e : ExEq L h h1) : CoreEq L h h1 := by
  intro k hk
  cases hb : h.get k with
  | none => exact .inl ⟨rfl, (e k hk).trans hb⟩
  | some b => exact .inr ⟨b, b, rfl, (e k hk).trans hb, rfl, rfl, rfl⟩
theorem CoreEq.shape {L h h1} (e : CoreEq L h h1) : ShapeEq L h h1 := by
  intro k hk
  rcases e k hk with h | ⟨b, b1, h1, h2, h3, h4, h5⟩
  · exact .inl h
  · exact .inr ⟨b, b1, h1, h2, h3, h4, by rw [h5]⟩
mutual
theorem pure0_congr {L h h1} (e : CoreEq L h h1) : ∀ (v : V), InL L v → V.pure0 h1 v = V.pure0 h v
  | .vs k, hl => by
    rw [V.pure0, V.pure0]
    rcases e k (hl k (by simp [V.refs])) with ⟨h1, h2⟩ | ⟨b, b1, h1, h2, h3, h4, h5⟩
    · rw [h1, h2]
    · rw [h1, h2]; simp only [h3, h4, h5]
  | .sub k lo hi, hl => by
    rw [V.pure0, V.pure0]
    rcases e k (hl k (by simp [V.refs])) with ⟨h1, h2⟩ | ⟨b, b1, h1, h2, h3, h4, h5⟩
    · rw [h1, h2]
    · rw [h1, h2]; simp only [h3, h4, h5]
  | .mp k, hl => by
    rw [V.pure0, V.pure0]
    rcases e k (hl k (by simp [V.refs])) with ⟨h1, h2⟩ | ⟨b, b1, h1, h2, h3, h4, h5⟩
    · rw [h1, h2]
    · rw [h1, h2]; simp only [Blk.isMp, Blk.isMap, Blk.ents, h3, h4, h5]
  | .mdat _, _ => rfl
  | .unk, _ => rfl
  | .it _ _ _, _ => rfl
  | .agg cs, hl => by rw [V.pure0, V.pure0, pure0L_congr e cs (fun k hk => hl k (by rw [V.refs]; exact hk))]
  | .tup cs, hl => by rw [V.pure0, V.pure0, pure0L_congr e cs (fun k hk => hl k (by rw [V.refs]; exact hk))]
  | .fn f cs, hl => by rw [V.pure0, V.pure0, pure0L_congr e cs (fun k hk => hl k (by rw [V.refs]; exact hk))]
  | .ptr _ _ _, _ => rfl
  | .undef, _ => rfl
  | .int _ _, _ => rfl
  | .bool _, _ => rfl
  | .str _, _ => rfl
  | .nils _, _ => rfl
  | .nilp, _ => rfl
  | .data _ _, _ => rfl
  | .pdat _ _ _, _ => rfl
  | .gd _ _ _, _ => rfl
theorem pure0L_congr {L h h1} (e : CoreEq L h h1) : ∀ (l : List V), (∀ k ∈ V.refsL l, L k) → V.pure0L h1 l = V.pure0L h l
  | [], _ => rfl
  | v :: r, hl => by
    rw [V.pure0L, V.pure0L, pure0_congr e v (fun k hk => hl k (by rw [V.refsL]; exact List.mem_append_left _ hk)), pure0L_congr e r (fun k hk => hl k (by rw [V.refsL]; exact List.mem_append_right _ hk))]
end
theorem HL.row {L h k b i} (hh : HL L h) (hb : h.get k = some b) (hvec : b.vec = false) : ∀ k' ∈ V.refsL (b.rows.getD i []), L k' := by
  intro k' hk'
  by_cases hi : i < b.rows.length
  · obtain ⟨v, hv, hkv⟩ := refsL_mem hk'
    exact hh k b hb hvec _ (List.mem_of_getElem? (getD_of hi)) v hv k' hkv
  · have : b.rows.getD i [] = [] := by simp [List.getD_eq_getElem?_getD, List.getElem?_eq_none (Nat.le_of_not_lt hi)]
    rw [this] at hk'; simp [V.refsL] at hk'
mutual
theorem pure_congr {L h h1} (e : CoreEq L h h1) (hh : HL L h) : ∀ (v : V), InL L v → V.pure h1 v = V.pure h v
  | .vs k, hl => by
    rw [V.pure, V.pure]
    rcases e k (hl k (by simp [V.refs])) with ⟨h1, h2⟩ | ⟨b, b1, h1, h2, h3, h4, h5⟩
    · rw [h1, h2]
    · rw [h1, h2]; simp only [h3, h4, h5]
  | .sub k lo hi, hl => by
    rw [V.pure, V.pure]
    rcases e k (hl k (by simp [V.refs])) with ⟨h1, h2⟩ | ⟨b, b1, h1, h2, h3, h4, h5⟩
    · rw [h1, h2]
    · rw [h1, h2]; simp only [h3, h4, h5]
  | .ptr k i j, hl => by
    rw [V.pure, V.pure]
    rcases e k (hl k (by simp [V.refs])) with ⟨h1, h2⟩ | ⟨b, b1, h1, h2, h3, h4, h5⟩
    · rw [h1, h2]
    · rw [h1, h2]
      cases hvec : b.vec with
      | true => simp only [h3, h4, h5, hvec, cond_true]
      | false => simp only [h3, h4, h5, hvec, cond_false, pure0L_congr e _ (hh.row h1 hvec)]
  | .mp k, hl => by
    rw [V.pure, V.pure]
    rcases e k (hl k (by simp [V.refs])) with ⟨h1, h2⟩ | ⟨b, b1, h1, h2, h3, h4, h5⟩
    · rw [h1, h2]
    · rw [h1, h2]; simp only [Blk.isMp, Blk.isMap, Blk.ents, h3, h4, h5]
  | .mdat _, _ => rfl
  | .unk, _ => rfl
  | .it _ _ _, _ => rfl
  | .agg cs, hl => by rw [V.pure, V.pure, pureL_congr e hh cs (fun k hk => hl k (by rw [V.refs]; exact hk))]
  | .tup cs, hl => by rw [V.pure, V.pure, pureL_congr e hh cs (fun k hk => hl k (by rw [V.refs]; exact hk))]
  | .fn f cs, hl => by rw [V.pure, V.pure, pureL_congr e hh cs (fun k hk => hl k (by rw [V.refs]; exact hk))]
  | .undef, _ => rfl
  | .int _ _, _ => rfl
  | .bool _, _ => rfl
  | .str _, _ => rfl
  | .nils _, _ => rfl
  | .nilp, _ => rfl
  | .data _ _, _ => rfl
  | .pdat _ _ _, _ => rfl
  | .gd _ _ _, _ => rfl
theorem pureL_congr {L h h1} (e : CoreEq L h h1) (hh : HL L h) : ∀ (l : List V), (∀ k ∈ V.refsL l, L k) → V.pureL h1 l = V.pureL h l
  | [], _ => rfl
  | v :: r, hl => by
    rw [V.pureL, V.pureL, pure_congr e hh v (fun k hk => hl k (by rw [V.refsL]; exact List.mem_append_left _ hk)), pureL_congr e hh r (fun k hk => hl k (by rw [V.refsL]; exact List.mem_append_right _ hk))]
end
theorem deep_congr {L h h1} (e : CoreEq L h h1) (l : List V) (hl : ∀ k ∈ V.refsL l, L k) : deepRefs h1 l = deepRefs h l := by
  unfold deepRefs
  simp only
  congr 1
  have : ∀ (ks : List Nat), (∀ k ∈ ks, L k) → (ks.flatMap fun k => match h1.get k with
    | some b => bif b.vec then [] else b.rows.flatMap V.refsL
    | none => []) = (ks.flatMap fun k => match h.get k with
    | some b => bif b.vec then [] else b.rows.flatMap V.refsL
    | none => []) := by
    intro ks
    induction ks with
    | nil => intro _; rfl
    | cons k r ih =>
      intro hk
      rw [List.flatMap_cons, List.flatMap_cons, ih (fun k hk' => hk k (List.mem_cons_of_mem _ hk'))]
      congr 1
      rcases e k (hk k (by simp)) with ⟨h1, h2⟩ | ⟨b, b1, h1, h2, h3, h4, h5⟩
      · rw [h1, h2]
      · rw [h1, h2]; simp only [h3, h5]
  exact this _ hl
theorem deep_inL {L h} (hh : HL L h) (l : List V) (hl : ∀ k ∈ V.refsL l, L k) : ∀ k ∈ deepRefs h l, L k := by
  intro k hk
  unfold deepRefs at hk
  rcases List.mem_append.1 hk with hk | hk
  · exact hl k hk
  · obtain ⟨k', hk', hm⟩ := List.mem_flatMap.1 hk
    split at hm
    · rename_i b hb
      cases hv0 : b.vec with
      | true => simp [hv0] at hm
      | false =>
        simp only [hv0, cond_false] at hm
        obtain ⟨row, hrow, hkr⟩ := List.mem_flatMap.1 hm
        obtain ⟨v, hv, hkv⟩ := refsL_mem hkr
        exact hh k' b hb hv0 row hrow v hv k hkv
    · cases hm
theorem cells_inL {L v} (hv : InL L v) : ∀ k ∈ V.refsL (V.cells v), L k := by
  intro k hk
  by_cases ha : ∃ cs, v = .agg cs
  · obtain ⟨cs, rfl⟩ := ha
    exact hv k (by rw [V.refs]; exact hk)
  · have : V.cells v = [v] := by cases v <;> first | rfl | (exact absurd ⟨_, rfl⟩ ha)
    rw [this] at hk
    simp [V.refsL] at hk
    exact hv k hk
end
end Go.Vm
