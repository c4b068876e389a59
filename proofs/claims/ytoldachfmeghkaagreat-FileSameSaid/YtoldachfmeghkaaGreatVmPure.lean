import Derived.Test.YtoldachfmeghkaaGreatVmMem
namespace Go.Vm
theorem CK.beq_eq {a b : CK} : CK.beq a b = true → a = b := by
  apply CK.rec (motive_1 := fun a => ∀ b, CK.beq a b = true → a = b) (motive_2 := fun l => ∀ r, CK.beqL l r = true → l = r) (t := a) (b := b)
  · intro k b h
    cases b with
    | int k' => congr 1; cases k <;> cases k' <;> first | rfl | (simp [CK.beq] at h)
    | _ => simp [CK.beq] at h
  · intro b h; cases b <;> simp [CK.beq] at h ⊢
  · intro b h; cases b <;> simp [CK.beq] at h ⊢
  · intro e ih b h
    cases b with
    | sl e' => rw [CK.beq] at h; rw [ih e' h]
    | _ => simp [CK.beq] at h
  · intro b h
    cases b with
    | mp => rfl
    | _ => simp [CK.beq] at h
  · intro b h
    cases b with
    | mark => rfl
    | _ => simp [CK.beq] at h
  · intro b h
    cases b with
    | other => rfl
    | _ => simp [CK.beq] at h
  · intro r h
    cases r with
    | nil => rfl
    | cons => simp [CK.beqL] at h
  · intro x l ih1 ih2 r h
    cases r with
    | nil => simp [CK.beqL] at h
    | cons y r =>
      simp only [CK.beqL, Bool.and_eq_true] at h
      rw [ih1 y h.1, ih2 r h.2]
theorem CK.beqL_eq {a b : List CK} (h : CK.beqL a b = true) : a = b := by
  have : CK.beq (.sl a) (.sl b) = true := by rw [CK.beq]; exact h
  have := CK.beq_eq this
  cases this; rfl
theorem holds_fits {c : CK} {v : V} (h : c.holds v = true) : Fits c v := by
  cases c with
  | int k =>
    cases v <;> simp only [CK.holds] at h <;> try (cases h)
    have := CK.beq_eq h
    cases this; exact .int _ _
  | bool => cases v <;> simp [CK.holds] at h; exact .bool _
  | str => cases v <;> simp [CK.holds] at h; exact .str _
  | sl sh =>
    cases v <;> simp only [CK.holds] at h <;> try (cases h)
    have := CK.beqL_eq h
    subst this; exact .sl _ _
  | mp => cases v <;> simp [CK.holds] at h; exact .mp _
  | mark => cases v <;> simp [CK.holds] at h
  | other => cases v <;> simp [CK.holds] at h
theorem holdsL_noMark {sh : List CK} {row : List V} (h : holdsL sh row = true) : isMapS sh = false := by
  cases sh with
  | nil => rfl
  | cons c l =>
    cases row with
    | nil => simp [holdsL] at h
    | cons v r =>
      simp only [holdsL, Bool.and_eq_true] at h
      cases c with
      | mark => cases v <;> simp [CK.holds] at h
      | _ => rfl
theorem holdsL_fits : ∀ {sh : List CK} {row : List V}, holdsL sh row = true → FitsL sh row
  | [], [], _ => ⟨rfl, fun j c v h => by simp at h⟩
  | c :: l, v :: r, h => by
    simp only [holdsL, Bool.and_eq_true] at h
    have ih := holdsL_fits h.2
    refine ⟨by simp [ih.1], fun j c' v' h1 h2 => ?_⟩
    cases j with
    | zero => simp only [List.getElem?_cons_zero, Option.some.injEq] at h1 h2; subst h1; subst h2; exact holds_fits h.1
    | succ j => exact ih.2 j c' v' (by simpa using h1) (by simpa using h2)
  | [], _ :: _, h => by simp [holdsL] at h
  | _ :: _, [], h => by simp [holdsL] at h
theorem pureL_map (h : Heap) : ∀ l : List V, V.pureL h l = l.map (V.pure h)
  | [] => rfl
  | v :: r => by rw [V.pureL, List.map_cons, pureL_map h r]
theorem pure0L_map (h : Heap) : ∀ l : List V, V.pure0L h l = l.map (V.pure0 h)
  | [] => rfl
  | v :: r => by rw [V.pure0L, List.map_cons, pure0L_map h r]
theorem mem_refsL {k : Nat} {v : V} : ∀ {l : List V}, v ∈ l → k ∈ V.refs v → k ∈ V.refsL l
  | u :: r, hv, hk => by
    rw [V.refsL, List.mem_append]
    rcases List.mem_cons.1 hv with rfl | hv
    · exact .inl hk
    · exact .inr (mem_refsL hv hk)
theorem DRel.pure {w A v x} (h : Heap) (hd : DRel w A v x) : DRel w A (V.pure h v) x := by
  induction hd with
  | undef x => exact .undef x
  | int k n => exact .int k n
  | bool b => exact .bool b
  | str s => exact .str s
  | nilp => exact .nilp
  | agg cs xs hl _ ih =>
    rw [V.pure, pureL_map]
    refine .agg _ xs (by simpa using hl) fun i v x h1 h2 => ?_
    rw [List.getElem?_map] at h1
    obtain ⟨u, hu, rfl⟩ := Option.map_eq_some_iff.1 h1
    exact ih i u x hu h2
  | tup cs xs hl _ ih =>
    rw [V.pure, pureL_map]
    refine .tup _ xs (by simpa using hl) fun i v x h1 h2 => ?_
    rw [List.getElem?_map] at h1
    obtain ⟨u, hu, rfl⟩ := Option.map_eq_some_iff.1 h1
    exact ih i u x hu h2
  | none sh a cap => exact .none sh a cap
  | data sh rows b off cap f hA hcap hf hm hc _ => exact .data sh rows b off cap f hA hcap hf hm hc
  | pdat sh row j b off f hA hf hm hc _ => exact .pdat sh row j b off f hA hf hm hc
  | fn g caps xs hl _ ih =>
    rw [V.pure, pureL_map]
    refine .fn g _ xs (by simpa using hl) fun i v x h1 h2 => ?_
    rw [List.getElem?_map] at h1
    obtain ⟨u, hu, rfl⟩ := Option.map_eq_some_iff.1 h1
    exact ih i u x hu h2
  | unk b => exact .unk b
  | mnil => exact .mnil
  | mdat rows r es clk kf vf h1 h2 h3 h4 h5 h6 h7 _ _ => exact .mdat rows r es clk kf vf h1 h2 h3 h4 h5 h6 h7
theorem DRel.pure0 {w A v x} (h : Heap) (hd : DRel w A v x) : DRel w A (V.pure0 h v) x := by
  induction hd with
  | undef x => exact .undef x
  | int k n => exact .int k n
  | bool b => exact .bool b
  | str s => exact .str s
  | nilp => exact .nilp
  | agg cs xs hl _ ih =>
    rw [V.pure0, pure0L_map]
    refine .agg _ xs (by simpa using hl) fun i v x h1 h2 => ?_
    rw [List.getElem?_map] at h1
    obtain ⟨u, hu, rfl⟩ := Option.map_eq_some_iff.1 h1
    exact ih i u x hu h2
  | tup cs xs hl _ ih =>
    rw [V.pure0, pure0L_map]
    refine .tup _ xs (by simpa using hl) fun i v x h1 h2 => ?_
    rw [List.getElem?_map] at h1
    obtain ⟨u, hu, rfl⟩ := Option.map_eq_some_iff.1 h1
    exact ih i u x hu h2
  | none sh a cap => exact .none sh a cap
  | data sh rows b off cap f hA hcap hf hm hc _ => exact .data sh rows b off cap f hA hcap hf hm hc
  | pdat sh row j b off f hA hf hm hc _ => exact .pdat sh row j b off f hA hf hm hc
  | fn g caps xs hl _ ih =>
    rw [V.pure0, pure0L_map]
    refine .fn g _ xs (by simpa using hl) fun i v x h1 h2 => ?_
    rw [List.getElem?_map] at h1
    obtain ⟨u, hu, rfl⟩ := Option.map_eq_some_iff.1 h1
    exact ih i u x hu h2
  | unk b => exact .unk b
  | mnil => exact .mnil
  | mdat rows r es clk kf vf h1 h2 h3 h4 h5 h6 h7 _ _ => exact .mdat rows r es clk kf vf h1 h2 h3 h4 h5 h6 h7
theorem mpData {n0 A0 L w t h a E} (S : SRel n0 A0 L w t h a E) {A' : Nat → Prop} (hA : ∀ b, Ab n0 A0 w h E b → A' b) {k : Nat} {b : Blk} (hb : h.get k = some b) (hm : b.isMp = true) (hk : ∀ r, E.m k = some r → A' r) {r : Nat} (hr : E.m k = some r) :
    DRel w A' (.mdat b.ents) (.map (some r)) := by
  obtain ⟨r', es, clk, h1, h2, h3⟩ := (S.hb k b hb).memM hm
  rw [hr] at h1; cases h1
  exact (h3.mono fun b hb => ⟨hA b hb, rfl⟩).drel (hk r hr) h2
theorem vsData {n0 A0 L w t h a E} (S : SRel n0 A0 L w t h a E) {A' : Nat → Prop} (hA : ∀ b, Ab n0 A0 w h E b → A' b) {k : Nat} {b : Blk} (hb : h.get k = some b) (hvec : b.vec = true) (hk : ∀ r, E.m k = some r → A' r) :
    DRel w A' (.data b.sh b.rows) (E.hd k) := by
  have hmem := (S.hb k b hb).memV (isMap_vec hvec)
  obtain ⟨hlen, hfit, _⟩ := S.hb k b hb
  rcases hmem with ⟨_, _, h0, hh⟩ | ⟨r, cs, T, hm, hw, hcell, hhd⟩
  · rw [h0, hh]; exact .none _ _ _
  · obtain ⟨cap, hcap, hle, _⟩ := hhd hvec
    rw [hcap]
    have hx : ∀ (i : Nat) (row : List V) (j : Nat) (v : V), b.rows[i]? = some row → row[j]? = some v → w.cell? ⟨r, 0 + (i * b.sh.length + j), none⟩ = some (cs.getD (i * b.sh.length + j) undef) ∧ DRel w A' v (cs.getD (i * b.sh.length + j) undef) := by
      intro i row j v h1 h2
      obtain ⟨x, hx, hv⟩ := hcell i row j v h1 h2
      rw [if_pos hvec] at hv
      have e : cs.getD (i * b.sh.length + j) undef = x := by simp [Array.getD_eq_getD_getElem?, hx]
      rw [e]
      exact ⟨by simp [World.cell?, hw, hx], hv.mono fun b hb => ⟨hA b hb, rfl⟩⟩
    exact .data b.sh b.rows r 0 cap (fun q => cs.getD q undef) (hk r hm) hle (hfit hvec) (fun i row j v h1 h2 => (hx i row j v h1 h2).1) (fun i row j v h1 h2 => (hx i row j v h1 h2).2)
theorem subGet {α : Type} {l : List α} {lo hi i : Nat} {x : α} (h : ((l.take hi).drop lo)[i]? = some x) : l[lo + i]? = some x := by
  rw [List.getElem?_drop, List.getElem?_take] at h
  split at h
  · exact h
  · cases h
theorem subData {n0 A0 L w t h a E} (S : SRel n0 A0 L w t h a E) {A' : Nat → Prop} (hA : ∀ b, Ab n0 A0 w h E b → A' b) {k lo hi : Nat} {x : Value} {b : Blk} (hb : h.get k = some b) (hvec : b.vec = true) (hk : ∀ r, E.m k = some r → A' r)
    (h1 : lo ≤ hi) (h2 : hi ≤ b.rows.length) (hx : (E.m k = none ∧ x = .slice none 0 0) ∨ ∃ r off cap, E.m k = some r ∧ hi - lo ≤ cap ∧ (lo < hi → off = lo * b.sh.length) ∧ x = .slice (some ⟨r, off, none⟩) (hi - lo) cap) :
    DRel w A' (.data b.sh ((b.rows.take hi).drop lo)) x := by
  have hmem := (S.hb k b hb).memV (isMap_vec hvec)
  obtain ⟨hlen, hfit, _⟩ := S.hb k b hb
  have hrl : ((b.rows.take hi).drop lo).length = hi - lo := by simp; omega
  rcases hmem with ⟨hm, _, h0, hh⟩ | ⟨r, cs, T, hm, hw, hcell, hhd⟩
  · rcases hx with ⟨_, rfl⟩ | ⟨r, _, cap, hm', _⟩
    · rw [h0]; simp only [List.take_nil, List.drop_nil]; exact .none _ _ _
    · rw [hm] at hm'; cases hm'
  · rcases hx with ⟨hm', _⟩ | ⟨r', off, cap, hm', hcap, hoff, rfl⟩
    · rw [hm] at hm'; cases hm'
    · rw [hm] at hm'; cases hm'
      have hx : ∀ (i : Nat) (row : List V) (j : Nat) (v : V), ((b.rows.take hi).drop lo)[i]? = some row → row[j]? = some v → w.cell? ⟨r, off + (i * b.sh.length + j), none⟩ = some (cs.getD (off + (i * b.sh.length + j)) undef) ∧ DRel w A' v (cs.getD (off + (i * b.sh.length + j)) undef) := by
        intro i row j v g1 g2
        obtain ⟨x, hx, hv⟩ := hcell (lo + i) row j v (subGet g1) g2
        rw [if_pos hvec] at hv
        have hi' := (List.getElem?_eq_some_iff.1 g1).1
        have e0 : off + (i * b.sh.length + j) = (lo + i) * b.sh.length + j := by rw [hoff (by omega), Nat.add_mul]; omega
        rw [e0]
        have e : cs.getD ((lo + i) * b.sh.length + j) undef = x := by simp [Array.getD_eq_getD_getElem?, hx]
        rw [e]
        exact ⟨by simp [World.cell?, hw, hx], hv.mono fun b hb => ⟨hA b hb, rfl⟩⟩
      have := DRel.data (w := w) (A := A') b.sh ((b.rows.take hi).drop lo) r off cap (fun q => cs.getD (off + q) undef) (hk r hm) (by omega) (fun r hr => hfit hvec r (List.mem_of_mem_take (List.mem_of_mem_drop hr)))
        (fun i row j v h1 h2 => (hx i row j v h1 h2).1) (fun i row j v h1 h2 => (hx i row j v h1 h2).2)
      rw [hrl] at this
      exact this
theorem VRel.pure0 {n0 A0 L w t h a E} (S : SRel n0 A0 L w t h a E) {A' : Nat → Prop} (hA : ∀ b, Ab n0 A0 w h E b → A' b) {K : Nat → Prop} (hK : ∀ k b r, K k → h.get k = some b → E.m k = some r → A' r)
    {v x} (hv : VRel w h L E (Ab n0 A0 w h E) v x) : (∀ k ∈ V.refs v, K k) → DRel w A' (V.pure0 h v) x := by
  induction hv with
  | pure hd => exact fun _ => (hd.mono fun b hb => ⟨hA b hb, rfl⟩).pure0 h
  | agg cs xs hl _ ih =>
    intro hr
    rw [V.pure0, pure0L_map]
    refine .agg _ xs (by simpa using hl) fun i v x h1 h2 => ?_
    rw [List.getElem?_map] at h1
    obtain ⟨u, hu, rfl⟩ := Option.map_eq_some_iff.1 h1
    exact ih i u x hu h2 fun k hk => hr k (by rw [V.refs]; exact mem_refsL (List.mem_of_getElem? hu) hk)
  | tup cs xs hl _ ih =>
    intro hr
    rw [V.pure0, pure0L_map]
    refine .tup _ xs (by simpa using hl) fun i v x h1 h2 => ?_
    rw [List.getElem?_map] at h1
    obtain ⟨u, hu, rfl⟩ := Option.map_eq_some_iff.1 h1
    exact ih i u x hu h2 fun k hk => hr k (by rw [V.refs]; exact mem_refsL (List.mem_of_getElem? hu) hk)
  | nils sh => exact fun _ => .none sh _ _
  | vs k x hL hx hh =>
    intro hr
    rw [V.pure0]
    cases hb : h.get k with
    | none => exact .undef x
    | some b =>
      cases hvec : b.vec with
      | false => simp only [hvec, cond_false]; exact .undef x
      | true =>
        simp only [hvec, cond_true]
        rw [hh b hb]
        exact vsData S hA hb hvec fun r hm => hK k b r (hr k (by simp [V.refs])) hb hm
  | sub k lo hi x hL hx hh =>
    intro hr
    rw [V.pure0]
    cases hb : h.get k with
    | none => exact .undef x
    | some b =>
      cases hvec : b.vec with
      | false => simp only [hvec, cond_false]; exact .undef x
      | true =>
        simp only [hvec, cond_true]
        obtain ⟨g1, g2, g3⟩ := hh b hb
        exact subData S hA hb hvec (fun r hm => hK k b r (hr k (by simp [V.refs])) hb hm) g1 g2 g3
  | ptr k i j x => exact fun _ => .undef x
  | fn g caps xs hl _ ih =>
    intro hr
    rw [V.pure0, pure0L_map]
    refine .fn g _ xs (by simpa using hl) fun i v x h1 h2 => ?_
    rw [List.getElem?_map] at h1
    obtain ⟨u, hu, rfl⟩ := Option.map_eq_some_iff.1 h1
    exact ih i u x hu h2 fun k hk => hr k (by rw [V.refs]; exact mem_refsL (List.mem_of_getElem? hu) hk)
  | mp k x hL hx hh =>
    intro hr
    rw [V.pure0]
    cases hb : h.get k with
    | none => exact .undef x
    | some b =>
      cases hmp : b.isMp with
      | false => simp only [hmp, cond_false]; exact .undef x
      | true =>
        simp only [hmp, cond_true]
        obtain ⟨r, hr1, rfl⟩ := hh b hb
        exact mpData S hA hb hmp (fun r hm => hK k b r (hr k (by simp [V.refs])) hb hm) hr1
  | gd j q v x => exact fun _ => .undef x
def RefsIn (K : Nat → Prop) (h : Heap) (v : V) : Prop := ∀ k ∈ V.refs v, K k ∧ ∀ b, h.get k = some b → b.vec = false → ∀ row ∈ b.rows, ∀ k' ∈ V.refsL row, K k'
theorem VRel.toPure {n0 A0 L w t h a E} (S : SRel n0 A0 L w t h a E) {A' : Nat → Prop} (hA : ∀ b, Ab n0 A0 w h E b → A' b) {K : Nat → Prop} (hK : ∀ k b r, K k → h.get k = some b → E.m k = some r → A' r)
    {v x} (hv : VRel w h L E (Ab n0 A0 w h E) v x) : RefsIn K h v → DRel w A' (V.pure h v) x := by
  induction hv with
  | pure hd => exact fun _ => (hd.mono fun b hb => ⟨hA b hb, rfl⟩).pure h
  | agg cs xs hl _ ih =>
    intro hr
    rw [V.pure, pureL_map]
    refine .agg _ xs (by simpa using hl) fun i v x h1 h2 => ?_
    rw [List.getElem?_map] at h1
    obtain ⟨u, hu, rfl⟩ := Option.map_eq_some_iff.1 h1
    exact ih i u x hu h2 fun k hk => hr k (by rw [V.refs]; exact mem_refsL (List.mem_of_getElem? hu) hk)
  | tup cs xs hl _ ih =>
    intro hr
    rw [V.pure, pureL_map]
    refine .tup _ xs (by simpa using hl) fun i v x h1 h2 => ?_
    rw [List.getElem?_map] at h1
    obtain ⟨u, hu, rfl⟩ := Option.map_eq_some_iff.1 h1
    exact ih i u x hu h2 fun k hk => hr k (by rw [V.refs]; exact mem_refsL (List.mem_of_getElem? hu) hk)
  | nils sh => exact fun _ => .none sh _ _
  | vs k x hL hx hh =>
    intro hr
    rw [V.pure]
    cases hb : h.get k with
    | none => exact .undef x
    | some b =>
      cases hvec : b.vec with
      | false => simp only [hvec, cond_false]; exact .undef x
      | true =>
        simp only [hvec, cond_true]
        rw [hh b hb]
        exact vsData S hA hb hvec fun r hm => hK k b r (hr k (by simp [V.refs])).1 hb hm
  | sub k lo hi x hL hx hh =>
    intro hr
    rw [V.pure]
    cases hb : h.get k with
    | none => exact .undef x
    | some b =>
      cases hvec : b.vec with
      | false => simp only [hvec, cond_false]; exact .undef x
      | true =>
        simp only [hvec, cond_true]
        obtain ⟨g1, g2, g3⟩ := hh b hb
        exact subData S hA hb hvec (fun r hm => hK k b r (hr k (by simp [V.refs])).1 hb hm) g1 g2 g3
  | ptr k i j x hL hx hh =>
    intro hr
    rw [V.pure]
    cases hb : h.get k with
    | none => exact .undef x
    | some b =>
      cases hvec : b.vec with
      | true =>
        simp only [hvec, cond_true]
        obtain ⟨hi, r, hm, rfl⟩ := hh b hb
        have hrow : b.rows[i]? = some (b.rows.getD i []) := getD_of hi
        generalize b.rows.getD i [] = row at *
        have hmem := (S.hb k b hb).memV (isMap_vec hvec)
        obtain ⟨hlen, hfit, _⟩ := S.hb k b hb
        have hr0 := hr k (by simp [V.refs])
        rcases hmem with ⟨hm', _⟩ | ⟨r', cs, T, hm', hw, hcell, _⟩
        · rw [hm] at hm'; cases hm'
        · rw [hm] at hm'; cases hm'
          have hx : ∀ (j : Nat) (v : V), row[j]? = some v → w.cell? ⟨r, i * b.sh.length + j, none⟩ = some (cs.getD (i * b.sh.length + j) undef) ∧ DRel w A' v (cs.getD (i * b.sh.length + j) undef) := by
            intro j v hu
            obtain ⟨x, hx, hv⟩ := hcell i row j v hrow hu
            have e : cs.getD (i * b.sh.length + j) undef = x := by simp [Array.getD_eq_getD_getElem?, hx]
            rw [e]
            refine ⟨by simp [World.cell?, hw, hx], ?_⟩
            rw [if_pos hvec] at hv
            exact hv.mono fun b hb => ⟨hA b hb, rfl⟩
          exact .pdat b.sh _ j r (i * b.sh.length) (fun q => cs.getD (i * b.sh.length + q) undef) (hK k b r hr0.1 hb hm) (hfit hvec row (List.mem_of_getElem? hrow)) (fun j v h1 => (hx j v h1).1) (fun j v h1 => (hx j v h1).2)
      | false =>
      cases hho : holdsL b.sh (V.pure0L h (b.rows.getD i [])) with
      | false => simp only [hvec, hho, cond_false]; exact .undef x
      | true =>
        simp only [hvec, hho, cond_false, cond_true]
        obtain ⟨hi, r, hm, rfl⟩ := hh b hb
        have hrow : b.rows[i]? = some (b.rows.getD i []) := getD_of hi
        generalize b.rows.getD i [] = row at *
        have hmem := (S.hb k b hb).memV (by simp [Blk.isMap, holdsL_noMark hho])
        obtain ⟨hlen, hfit, _⟩ := S.hb k b hb
        have hr0 := hr k (by simp [V.refs])
        rcases hmem with ⟨hm', _⟩ | ⟨r', cs, T, hm', hw, hcell, _⟩
        · rw [hm] at hm'; cases hm'
        · rw [hm] at hm'; cases hm'
          rw [pure0L_map] at hho ⊢
          have hx : ∀ (j : Nat) (v : V), (row.map (V.pure0 h))[j]? = some v → w.cell? ⟨r, i * b.sh.length + j, none⟩ = some (cs.getD (i * b.sh.length + j) undef) ∧ DRel w A' v (cs.getD (i * b.sh.length + j) undef) := by
            intro j v h1
            rw [List.getElem?_map] at h1
            obtain ⟨u, hu, rfl⟩ := Option.map_eq_some_iff.1 h1
            obtain ⟨x, hx, hv⟩ := hcell i row j u hrow hu
            have e : cs.getD (i * b.sh.length + j) undef = x := by simp [Array.getD_eq_getD_getElem?, hx]
            rw [e]
            refine ⟨by simp [World.cell?, hw, hx], ?_⟩
            · rw [if_neg (by simp [hvec])] at hv
              exact VRel.pure0 S hA hK hv fun k' hk' => hr0.2 b hb (by simpa using hvec) row (List.mem_of_getElem? hrow) k' (mem_refsL (List.mem_of_getElem? hu) hk')
          exact .pdat b.sh _ j r (i * b.sh.length) (fun q => cs.getD (i * b.sh.length + q) undef) (hK k b r hr0.1 hb hm) (holdsL_fits hho) (fun j v h1 => (hx j v h1).1) (fun j v h1 => (hx j v h1).2)
  | fn g caps xs hl _ ih =>
    intro hr
    rw [V.pure, pureL_map]
    refine .fn g _ xs (by simpa using hl) fun i v x h1 h2 => ?_
    rw [List.getElem?_map] at h1
    obtain ⟨u, hu, rfl⟩ := Option.map_eq_some_iff.1 h1
    exact ih i u x hu h2 fun k hk => hr k (by rw [V.refs]; exact mem_refsL (List.mem_of_getElem? hu) hk)
  | mp k x hL hx hh =>
    intro hr
    rw [V.pure]
    cases hb : h.get k with
    | none => exact .undef x
    | some b =>
      cases hmp : b.isMp with
      | false => simp only [hmp, cond_false]; exact .undef x
      | true =>
        simp only [hmp, cond_true]
        obtain ⟨r, hr1, rfl⟩ := hh b hb
        exact mpData S hA hb hmp (fun r hm => hK k b r (hr k (by simp [V.refs])).1 hb hm) hr1
  | gd j q v x => exact fun _ => .undef x
theorem refsIn_deep {h : Heap} {vs : List V} {v : V} (hv : v ∈ vs) : RefsIn (· ∈ deepRefs h vs) h v := by
  intro k hk
  have h1 : k ∈ V.refsL vs := mem_refsL hv hk
  refine ⟨by unfold deepRefs; exact List.mem_append.2 (.inl h1), fun b hb hvec row hrow k' hk' => ?_⟩
  unfold deepRefs
  refine List.mem_append.2 (.inr (List.mem_flatMap.2 ⟨k, h1, ?_⟩))
  rw [hb]
  simp only [hvec, cond_false]
  exact List.mem_flatMap.2 ⟨row, hrow, hk'⟩
def Aall (n0 : Nat) (A0 : Nat → Prop) (w : World) (b : Nat) : Prop := (A0 b ∨ n0 ≤ b) ∧ b < w.heap.size
theorem toPure_all {n0 A0 L w t h a E} (S : SRel n0 A0 L w t h a E) {v x} (hv : VRel w h L E (Ab n0 A0 w h E) v x) : DRel w (Aall n0 A0 w) (V.pure h v) x :=
  hv.toPure S (K := fun _ => True) (fun _ hb => ⟨hb.1, hb.2.1⟩) (fun k b r _ hb hm => ⟨.inr (S.own k b r hb hm).1, (S.own k b r hb hm).2⟩) fun _ _ => ⟨trivial, fun _ _ _ _ _ _ _ => trivial⟩
theorem toPure_fz {n0 A0 L w t h a E} (S : SRel n0 A0 L w t h a E) {vs : List V} {v x} (hm : v ∈ vs) (hv : VRel w h L E (Ab n0 A0 w h E) v x) : DRel w (Ab n0 A0 w (h.freeze (deepRefs h vs)) E) (V.pure h v) x :=
  hv.toPure S (K := (· ∈ deepRefs h vs)) (fun _ hb => hb.freeze _) (fun k b r hk hb hm => ⟨.inr (S.own k b r hb hm).1, (S.own k b r hb hm).2, fun k' bl hk' hf hm' => by
    obtain ⟨b0, h0, _, _, _, h3, _⟩ := freeze_get hk'
    have e := S.inj k' b0 k b r h0 hb hm' hm
    subst e
    exact (h3 hf).2 hk⟩) (refsIn_deep hm)
end Go.Vm
