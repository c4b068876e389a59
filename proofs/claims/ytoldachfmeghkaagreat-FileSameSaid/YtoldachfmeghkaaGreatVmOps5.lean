import Derived.Test.YtoldachfmeghkaaGreatVmOps4
import Derived.Laws.IdiomStrings
namespace Go.Vm
section
variable {P : Program}
theorem Fits.oneCell {w A c v x} (hc : c.plain = true) (hf : Fits c v) (hd : DRel w A v x) : x.oneCell' = true := by
  cases hf with
  | other => simp [CK.plain] at hc
  | int => cases hd; rfl
  | bool => cases hd; rfl
  | str => cases hd; rfl
  | sl => cases hd <;> rfl
  | mp => cases hd <;> rfl
theorem cells_of_rows {w : World} {A : Nat → Prop} {sh : List CK} {rows : List (List V)} (hf : ∀ r ∈ rows, FitsL sh r) (g : Nat → Value)
    (hc : ∀ (i : Nat) (r : List V) (j : Nat) (v : V), rows[i]? = some r → r[j]? = some v → DRel w A v (g (i * sh.length + j))) :
    ∃ xs : List Value, xs.length = rows.length * sh.length ∧ (∀ (q : Nat) (x : Value), xs[q]? = some x → x = g q) ∧
      (∀ (q : Nat), q < rows.length * sh.length → ∃ i j r v, q = i * sh.length + j ∧ rows[i]? = some r ∧ r[j]? = some v ∧ i < rows.length ∧ j < sh.length) := by
  obtain ⟨xs, hl, hx⟩ := list_of (Q := fun q x => x = g q) (rows.length * sh.length) (fun q _ => ⟨g q, rfl⟩)
  refine ⟨xs, hl, hx, fun q hq => ?_⟩
  have h0 : 0 < sh.length := Nat.pos_of_ne_zero fun h => by rw [h] at hq; omega
  have hi : q / sh.length < rows.length := (Nat.div_lt_iff_lt_mul h0).2 hq
  have hj : q % sh.length < sh.length := Nat.mod_lt _ h0
  have hr := getD_of (d := ([] : List V)) hi
  have hrl := (hf _ (List.mem_of_getElem? hr)).1
  exact ⟨q / sh.length, q % sh.length, _, _, by rw [Nat.mul_comm]; exact (Nat.div_add_mod q sh.length).symm, hr, getD_of (d := V.undef) (by omega), hi, hj⟩
theorem src_of_data {w : World} {A : Nat → Prop} {tx e' : TypeId} (hk : P.underlying tx = some (.slice e')) {sh : List CK} {rows : List (List V)} {x : Value} (hp : sh.all CK.plain = true) (hd : DRel w A (.data sh rows) x) :
    ∃ news : List Value, Src P sh.length tx x rows.length news w ∧ news.length = rows.length * sh.length ∧ (∀ (i : Nat) (r : List V) (j : Nat) (v : V), rows[i]? = some r → r[j]? = some v → ∃ y, news[i * sh.length + j]? = some y ∧ DRel w A v y) := by
  cases hd with
  | none _ a cap =>
    refine ⟨[], ?_, by simp, fun i r j v h => by simp at h⟩
    cases a with
    | none => exact Src.ofNil w hk cap
    | some a => exact Src.ofSlice w hk a 0 cap [] (by simp) (fun q u hu => by simp at hu) (fun u hu => by cases hu)
  | data _ _ b off cap f hA hcap hf hm hc =>
    obtain ⟨xs, hl, hx, hex⟩ := cells_of_rows hf f hc
    refine ⟨xs, Src.ofSlice w hk ⟨b, off, none⟩ rows.length cap xs hl (fun q u hu => ?_) (fun u hu => ?_), hl, fun i r j v h1 h2 => ?_⟩
    · have hq : q < rows.length * sh.length := by rw [← hl]; exact (List.getElem?_eq_some_iff.1 hu).1
      obtain ⟨i, j, r, v, e, h1, h2, _⟩ := hex q hq
      rw [Addr.add_mid, hx q u hu, e]
      exact hm i r j v h1 h2
    · obtain ⟨q, hq⟩ := List.mem_iff_getElem?.1 hu
      have hql : q < rows.length * sh.length := by rw [← hl]; exact (List.getElem?_eq_some_iff.1 hq).1
      obtain ⟨i, j, r, v, e, h1, h2, _, hj⟩ := hex q hql
      rw [hx q u hq, e]
      have hff := hf r (List.mem_of_getElem? h1)
      have hc1 := getD_of (d := CK.other) hj
      exact (hff.2 j _ v hc1 h2).oneCell (List.all_eq_true.1 hp _ (List.mem_of_getElem? hc1)) (hc i r j v h1 h2)
    · have hi := (List.getElem?_eq_some_iff.1 h1).1
      have hj : j < sh.length := by have := (List.getElem?_eq_some_iff.1 h2).1; have := (hf r (List.mem_of_getElem? h1)).1; omega
      have hq : i * sh.length + j < xs.length := by
        rw [hl]
        have : (i + 1) * sh.length ≤ rows.length * sh.length := Nat.mul_le_mul_right _ hi
        rw [Nat.succ_mul] at this; omega
      refine ⟨xs[i * sh.length + j], List.getElem?_eq_getElem hq, ?_⟩
      rw [hx _ _ (List.getElem?_eq_getElem hq)]
      exact hc i r j v h1 h2
theorem SRel.del {n0 A0 L w t h a E} (S : SRel n0 A0 L w t h a E) (k : Nat) : SRel n0 A0 L w t (h.del k) a E := by
  have g : ∀ k' b, (h.del k).get k' = some b → h.get k' = some b := by
    intro k' b hb
    rw [Heap.get_del] at hb
    split at hb
    · cases hb
    · exact hb
  have hA : ∀ b, Ab n0 A0 w h E b → Ab n0 A0 w (h.del k) E b ∧ w.heap[b]? = w.heap[b]? := fun b hb => ⟨⟨hb.1, hb.2.1, fun k' bl hk' hf => hb.2.2 k' bl (g k' bl hk') hf⟩, rfl⟩
  have hh : ∀ k' b', L k' → (h.del k).get k' = some b' → ∃ b, h.get k' = some b ∧ b.rows.length ≤ b'.rows.length ∧ b.sh = b'.sh ∧ E.m k' = E.m k' ∧ E.hd k' = E.hd k' :=
    fun k' b' _ hb => ⟨b', g k' b' hb, Nat.le_refl _, rfl, rfl, rfl⟩
  exact S.trans (Nat.le_refl _) (fun _ h => h) hA hh (fun k' b' hb => (S.hb k' b' (g k' b' hb)).mono hA (fun _ h => h) hh rfl rfl (fun _ _ => rfl)) (fun k' b hb => S.hl k' b (g k' b hb))
    (fun k' b r hb => S.own k' b r (g k' b hb)) (fun k1 b1 k2 b2 r h1 h2 => S.inj k1 b1 k2 b2 r (g k1 b1 h1) (g k2 b2 h2))
theorem Ab.del {n0 A0 w h E b} (k : Nat) (hb : Ab n0 A0 w h E b) : Ab n0 A0 w (h.del k) E b := by
  refine ⟨hb.1, hb.2.1, fun k' bl hk' hf => hb.2.2 k' bl ?_ hf⟩
  rw [Heap.get_del] at hk'
  split at hk'
  · cases hk'
  · exact hk'
theorem zeroCells_size (z : Array Value) (n : Nat) : (Builtin.zeroCells z n).size = n * z.size := by simp [Builtin.zeroCells]
theorem append_grow {n0 A0 L w t h a E} (S : SRel n0 A0 L w t h a E) {id : Nat} (hid : ¬ L id) {ty tx rt el e' : TypeId} (hu : P.underlying ty = some (.slice el)) (hk : P.underlying tx = some (.slice e'))
    {sh : List CK} (hsh : ck P el = sh) (hz : zeroOK P el = true) (h0 : 0 < szOf P el) (hby : 0 < bytesOfT P el) {rows new : List (List V)} {base : Option Addr} {cap : Nat} {y : Value} {news : List Value}
    (hsrc : Src P sh.length tx y new.length news w) (hnl : news.length = new.length * sh.length)
    (hnr : ∀ (i : Nat) (r : List V) (j : Nat) (v : V), new[i]? = some r → r[j]? = some v → ∃ y, news[i * sh.length + j]? = some y ∧ DRel w (Ab n0 A0 w h E) v y) (hnf : ∀ r ∈ new, FitsL sh r)
    (hrf : ∀ r ∈ rows, FitsL sh r) (olds : List Value) (hol : olds.length = rows.length * sh.length) (hold : (Builtin.firstCells sh.length rows.length (.slice base rows.length cap)).run P w.drew = .ok olds.toArray w.drew)
    (hor : ∀ (i : Nat) (r : List V) (j : Nat) (v : V), rows[i]? = some r → r[j]? = some v → ∃ y, olds[i * sh.length + j]? = some y ∧ DRel w (Ab n0 A0 w h E) v y)
    (hroom : ((rows.length : Int) + (new.length : Int)) * (bytesOfT P el : Int) ≤ roomB) (hgrow : cap < rows.length + new.length) :
    ∃ x w' E', (Builtin.append_ #[ty, tx] rt #[.slice base rows.length cap, y]).run P w = .ok x w' ∧ Below n0 w w' ∧ SRel n0 A0 (fun k => L k ∨ k = id) w' t (h.ins id ⟨true, sh, rows ++ new, false⟩) a E' ∧
      VRel w' (h.ins id ⟨true, sh, rows ++ new, false⟩) (fun k => L k ∨ k = id) E' (Ab n0 A0 w' (h.ins id ⟨true, sh, rows ++ new, false⟩) E') (.vs id) x := by
  obtain ⟨_, z, hzr, hzi, hz1, hz2, hz3, hzz⟩ := zeroOK_rel hz
  obtain ⟨i, hi, hiz⟩ := Option.bind_eq_some_iff.1 hzi
  have hisz : szOf P el = i.size := by simp [szOf, hi]
  have hiby : bytesOfT P el = i.bytes := by simp [bytesOfT, hi]
  have hshl : sh.length = i.size := by rw [← hsh, hz3, hisz]
  rw [hshl] at hsrc hnl hnr hol hor hold
  have hroomN : (rows.length + new.length) * i.bytes ≤ 140737488355328 := by
    have h2 : (((rows.length + new.length) * i.bytes : Nat) : Int) ≤ 140737488355328 := by
      rw [Int.natCast_mul, Int.natCast_add, ← hiby]; exact hroom
    omega
  have h63 : rows.length + new.length ≤ 140737488355328 := by
    refine Nat.le_trans ?_ hroomN
    exact Nat.le_mul_of_pos_right _ (by omega)
  have hfit := growslice_fits (bytes := i.bytes) hgrow hroomN
  have hr := run_append_grow_src (P := P) w ty tx rt el i z hu hi hiz base rows.length cap olds hold y new.length news hsrc hgrow (by omega) hfit
  generalize hG : grownCap w (rows.length + new.length) cap el = G at hr
  have hGe : rows.length + new.length ≤ G := by
    rw [← hG]; exact Nat.le_add_right _ _
  have hsz : i.size ≤ z.cells.size := by omega
  have hB : Below w.heap.size w (w.drew.alloc (.cells ((olds ++ news).toArray ++ Builtin.zeroCells z.cells (G - (rows.length + new.length))) el)) :=
    ((Below.refl _ _).drew).alloc (Nat.le_refl _) _
  have hall : ∀ r ∈ rows ++ new, FitsL sh r := fun r hr => (List.mem_append.1 hr).elim (hrf r) (hnf r)
  have S' := S.new (blk := ⟨true, sh, rows ++ new, false⟩) (hd := .slice (some ⟨w.heap.size, 0, none⟩) (rows.length + new.length) G) (some w.heap.size) hid hB (fun r hr => by cases hr; exact ⟨rfl, by simp⟩) (fun r hr => (hall r hr).1.symm) (fun _ => hall)
    (.inr ⟨w.heap.size, (olds ++ news).toArray ++ Builtin.zeroCells z.cells (G - (rows.length + new.length)), el, rfl, by
      show (w.heap.push _)[w.heap.size]? = _
      rw [Array.getElem?_push_size], fun q row j v g1 g2 => by
      simp only [if_true]
      have hj : j < i.size := by
        have h2 := (List.getElem?_eq_some_iff.1 g2).1
        have h3 := (hall row (List.mem_of_getElem? g1)).1
        omega
      rw [hshl]
      rw [List.getElem?_append] at g1
      split at g1
      · rename_i hq
        obtain ⟨y, hy, hd⟩ := hor q row j v g1 g2
        refine ⟨y, ?_, hd⟩
        have hlt : q * i.size + j < olds.length := (List.getElem?_eq_some_iff.1 hy).1
        rw [Array.getElem?_append_left (by simp; omega)]
        simp only [List.getElem?_toArray]
        rw [List.getElem?_append_left hlt]; exact hy
      · rename_i hq
        obtain ⟨y, hy, hd⟩ := hnr (q - rows.length) row j v g1 g2
        refine ⟨y, ?_, hd⟩
        have hlt : (q - rows.length) * i.size + j < news.length := (List.getElem?_eq_some_iff.1 hy).1
        have e : q * i.size + j = olds.length + ((q - rows.length) * i.size + j) := by
          rw [hol, Nat.sub_mul]
          have : rows.length * i.size ≤ q * i.size := Nat.mul_le_mul_right _ (by omega)
          omega
        rw [Array.getElem?_append_left (by simp; omega)]
        simp only [List.getElem?_toArray]
        rw [e, List.getElem?_append_right (by omega)]
        rw [show olds.length + ((q - rows.length) * i.size + j) - olds.length = (q - rows.length) * i.size + j by omega]
        exact hy, fun _ => ⟨G, by simp, by simpa using hGe, by
        rw [hshl]
        simp only [Array.size_append, List.size_toArray, List.length_append, zeroCells_size, hol, hnl, hz1, ← hisz]
        rw [← Nat.add_mul, ← Nat.add_mul]
        refine Nat.mul_le_mul_right _ (by omega)⟩⟩)
  refine ⟨_, _, _, hr, Below.mono hB S.nh, S', .vs id _ (.inr rfl) ⟨_, _, _, rfl⟩ fun b hb => by simp [Emb.set]⟩
theorem freeze_nil : ∀ h : Heap, h.freeze [] = h
  | [] => rfl
  | (i, c) :: r => by rw [Heap.freeze, freeze_nil r]; rfl
theorem src_of_val {n0 A0 L w t h a E} (S : SRel n0 A0 L w t h a E) {tx e' : TypeId} (hk : P.underlying tx = some (.slice e')) {sh : List CK} {new : List (List V)} {vy : V} {xy : Value} (hp : sh.all CK.plain = true)
    (hy : VRel w h L E (Ab n0 A0 w h E) vy xy) (hpure : V.pure h vy = .data sh new) :
    ∃ news : List Value, Src P sh.length tx xy new.length news w ∧ news.length = new.length * sh.length ∧ (∀ (i : Nat) (r : List V) (j : Nat) (v : V), new[i]? = some r → r[j]? = some v → ∃ y, news[i * sh.length + j]? = some y ∧ DRel w (Ab n0 A0 w h E) v y) ∧ (∀ r ∈ new, FitsL sh r) := by
  cases hy with
  | pure hd =>
    cases hd with
    | none sh' a cap =>
      have hp2 : V.data sh' [] = V.data sh new := hpure
      cases hp2
      obtain ⟨news, h1, h2, h3⟩ := src_of_data hk hp (DRel.none (w := w) (A := Ab n0 A0 w h E) sh a cap)
      exact ⟨news, h1, h2, h3, fun r hr => by cases hr⟩
    | data sh' rows b off cap f hA hcap hf hm hc =>
      have hp2 : V.data sh' rows = V.data sh new := hpure
      cases hp2
      obtain ⟨news, h1, h2, h3⟩ := src_of_data hk hp (DRel.data (w := w) (A := Ab n0 A0 w h E) sh new b off cap f hA hcap hf hm hc)
      exact ⟨news, h1, h2, h3, hf⟩
    | _ => simp [V.pure] at hpure
  | nils sh' =>
    have hp2 : V.data sh' [] = V.data sh new := hpure
    cases hp2
    obtain ⟨news, h1, h2, h3⟩ := src_of_data hk hp (DRel.none (w := w) (A := Ab n0 A0 w h E) sh none 0)
    exact ⟨news, h1, h2, h3, fun r hr => by cases hr⟩
  | vs k x hL hx hh =>
    rw [V.pure] at hpure
    cases hb : h.get k with
    | none => rw [hb] at hpure; cases hpure
    | some b =>
      rw [hb] at hpure
      cases hvec : b.vec with
      | false => simp [hvec] at hpure
      | true =>
        simp only [hvec, cond_true, V.data.injEq] at hpure
        obtain ⟨rfl, rfl⟩ := hpure
        have hmem := (S.hb k b hb).memV (isMap_vec hvec)
        obtain ⟨hlen, hfit, _⟩ := S.hb k b hb
        have := hh b hb
        subst this
        rcases hmem with ⟨_, _, h0, hh⟩ | ⟨r, cs, T, hm, hw, hcell, hhd⟩
        · rw [h0, hh]
          obtain ⟨news, h1, h2, h3⟩ := src_of_data hk hp (DRel.none (w := w) (A := Ab n0 A0 w h E) b.sh none 0)
          exact ⟨news, h1, h2, h3, fun r hr => by cases hr⟩
        · obtain ⟨cap, hcap, hle, _⟩ := hhd hvec
          rw [hcap]
          have hxx : ∀ (i : Nat) (row : List V) (j : Nat) (v : V), b.rows[i]? = some row → row[j]? = some v → w.cell? ⟨r, 0 + (i * b.sh.length + j), none⟩ = some (cs.getD (i * b.sh.length + j) undef) ∧ DRel w (Ab n0 A0 w h E) v (cs.getD (i * b.sh.length + j) undef) := by
            intro i row j v h1 h2
            obtain ⟨x, hx, hv⟩ := hcell i row j v h1 h2
            rw [if_pos hvec] at hv
            have e : cs.getD (i * b.sh.length + j) undef = x := by simp [Array.getD_eq_getD_getElem?, hx]
            rw [e]
            exact ⟨by simp [World.cell?, hw, hx], hv⟩
          have hd : DRel w (fun q => Ab n0 A0 w h E q ∨ q = r) (.data b.sh b.rows) (.slice (some ⟨r, 0, none⟩) b.rows.length cap) :=
            .data b.sh b.rows r 0 cap (fun q => cs.getD q undef) (.inr rfl) hle (hfit hvec) (fun i row j v h1 h2 => (hxx i row j v h1 h2).1) (fun i row j v h1 h2 => (hxx i row j v h1 h2).2.mono fun q hq => ⟨.inl hq, rfl⟩)
          obtain ⟨news, h1, h2, h3⟩ := src_of_data hk hp hd
          refine ⟨news, h1, h2, fun i row j v g1 g2 => ?_, hfit hvec⟩
          obtain ⟨y, hy, _⟩ := h3 i row j v g1 g2
          refine ⟨y, hy, ?_⟩
          have hc := h1.cells
          have hq : i * b.sh.length + j < news.length := (List.getElem?_eq_some_iff.1 hy).1
          have hold := run_firstCells_some (P := P) w b.sh.length b.rows.length ⟨r, 0, none⟩ b.rows.length cap ((List.range (b.rows.length * b.sh.length)).map fun q => cs.getD q undef) (by simp) (fun q v hv => by
            rw [List.getElem?_map] at hv
            obtain ⟨q', hq', rfl⟩ := Option.map_eq_some_iff.1 hv
            have hlt : q < b.rows.length * b.sh.length := by have := (List.getElem?_eq_some_iff.1 hq').1; simpa using this
            rw [List.getElem?_range hlt] at hq'
            cases hq'
            have h0 : 0 < b.sh.length := Nat.pos_of_ne_zero fun h => by rw [h] at hlt; omega
            have hi : q / b.sh.length < b.rows.length := (Nat.div_lt_iff_lt_mul h0).2 hlt
            have hr := getD_of (d := ([] : List V)) hi
            have hj : q % b.sh.length < (b.rows.getD (q / b.sh.length) []).length := by rw [hlen _ (List.mem_of_getElem? hr)]; exact Nat.mod_lt _ h0
            have := (hxx _ _ _ _ hr (getD_of (d := V.undef) hj)).1
            rw [Nat.mul_comm, Nat.div_add_mod] at this
            rw [Addr.add_mid]; exact this)
          rw [hc] at hold
          have heq : news.toArray = ((List.range (b.rows.length * b.sh.length)).map fun q => cs.getD q undef).toArray := by injection hold
          have heq : news = (List.range (b.rows.length * b.sh.length)).map fun q => cs.getD q undef := by
            have := congrArg Array.toList heq
            simpa using this
          rw [heq] at hy
          rw [List.getElem?_map] at hy
          obtain ⟨q', hq', rfl⟩ := Option.map_eq_some_iff.1 hy
          rw [List.getElem?_range (by rw [h2] at hq; exact hq)] at hq'
          cases hq'
          exact (hxx i row j v g1 g2).2
  | sub k lo hi x hL hx hh =>
    rw [V.pure] at hpure
    cases hb : h.get k with
    | none => rw [hb] at hpure; cases hpure
    | some b =>
      rw [hb] at hpure
      cases hvec : b.vec with
      | false => simp [hvec] at hpure
      | true =>
        simp only [hvec, cond_true, V.data.injEq] at hpure
        obtain ⟨rfl, rfl⟩ := hpure
        have hmem := (S.hb k b hb).memV (isMap_vec hvec)
        obtain ⟨hlen, hfit, _⟩ := S.hb k b hb
        obtain ⟨g1, g2, g3⟩ := hh b hb
        have hall : ∀ r ∈ (b.rows.take hi).drop lo, FitsL b.sh r := fun r hr => hfit hvec r (List.mem_of_mem_take (List.mem_of_mem_drop hr))
        rcases hmem with ⟨hm, _, h0, _⟩ | ⟨r, cs, T, hm, hw, hcell, _⟩
        · rcases g3 with ⟨_, rfl⟩ | ⟨r, _, cap, hm', _⟩
          · rw [h0]
            simp only [List.take_nil, List.drop_nil]
            obtain ⟨news, h1, h2, h3⟩ := src_of_data hk hp (DRel.none (w := w) (A := Ab n0 A0 w h E) b.sh none 0)
            exact ⟨news, h1, h2, h3, fun r hr => by cases hr⟩
          · rw [hm] at hm'; cases hm'
        · rcases g3 with ⟨hm', _⟩ | ⟨r', off, cap, hm', hcap, hoff, rfl⟩
          · rw [hm] at hm'; cases hm'
          rw [hm] at hm'; cases hm'
          generalize hR : (b.rows.take hi).drop lo = R
          have hRl : R.length = hi - lo := by rw [← hR]; simp; omega
          rw [hR] at hall
          have hxx : ∀ (i : Nat) (row : List V) (j : Nat) (v : V), R[i]? = some row → row[j]? = some v → w.cell? ⟨r, off + (i * b.sh.length + j), none⟩ = some (cs.getD (off + (i * b.sh.length + j)) undef) ∧ DRel w (Ab n0 A0 w h E) v (cs.getD (off + (i * b.sh.length + j)) undef) := by
            intro i row j v h1 h2
            obtain ⟨x, hx, hv⟩ := hcell (lo + i) row j v (subGet (hR ▸ h1)) h2
            rw [if_pos hvec] at hv
            have hi' := (List.getElem?_eq_some_iff.1 h1).1
            rw [← hR] at hi'
            simp at hi'
            have e0 : off + (i * b.sh.length + j) = (lo + i) * b.sh.length + j := by rw [hoff (by omega), Nat.add_mul]; omega
            rw [e0]
            have e : cs.getD ((lo + i) * b.sh.length + j) undef = x := by simp [Array.getD_eq_getD_getElem?, hx]
            rw [e]
            exact ⟨by simp [World.cell?, hw, hx], hv⟩
          have hd : DRel w (fun q => Ab n0 A0 w h E q ∨ q = r) (.data b.sh R) (.slice (some ⟨r, off, none⟩) R.length cap) :=
            .data b.sh R r off cap (fun q => cs.getD (off + q) undef) (.inr rfl) (by omega) hall (fun i row j v h1 h2 => (hxx i row j v h1 h2).1) (fun i row j v h1 h2 => (hxx i row j v h1 h2).2.mono fun q hq => ⟨.inl hq, rfl⟩)
          obtain ⟨news, h1, h2, h3⟩ := src_of_data hk hp hd
          rw [← hRl]
          refine ⟨news, h1, h2, fun i row j v g1 g2 => ?_, hall⟩
          obtain ⟨y, hy, _⟩ := h3 i row j v g1 g2
          refine ⟨y, hy, ?_⟩
          have hc := h1.cells
          have hq : i * b.sh.length + j < news.length := (List.getElem?_eq_some_iff.1 hy).1
          have hold := run_firstCells_some (P := P) w b.sh.length R.length ⟨r, off, none⟩ R.length cap ((List.range (R.length * b.sh.length)).map fun q => cs.getD (off + q) undef) (by simp) (fun q v hv => by
            rw [List.getElem?_map] at hv
            obtain ⟨q', hq', rfl⟩ := Option.map_eq_some_iff.1 hv
            have hlt : q < R.length * b.sh.length := by have := (List.getElem?_eq_some_iff.1 hq').1; simpa using this
            rw [List.getElem?_range hlt] at hq'
            cases hq'
            have h0 : 0 < b.sh.length := Nat.pos_of_ne_zero fun h => by rw [h] at hlt; omega
            have hi : q / b.sh.length < R.length := (Nat.div_lt_iff_lt_mul h0).2 hlt
            have hr := getD_of (d := ([] : List V)) hi
            have hj : q % b.sh.length < (R.getD (q / b.sh.length) []).length := by rw [← (hall _ (List.mem_of_getElem? hr)).1]; exact Nat.mod_lt _ h0
            have := (hxx _ _ _ _ hr (getD_of (d := V.undef) hj)).1
            rw [Nat.mul_comm (q / b.sh.length), Nat.div_add_mod] at this
            rw [Addr.add_mid]; exact this)
          rw [hc] at hold
          have heq : news.toArray = ((List.range (R.length * b.sh.length)).map fun q => cs.getD (off + q) undef).toArray := by injection hold
          have heq : news = (List.range (R.length * b.sh.length)).map fun q => cs.getD (off + q) undef := by
            have := congrArg Array.toList heq
            simpa using this
          rw [heq] at hy
          rw [List.getElem?_map] at hy
          obtain ⟨q', hq', rfl⟩ := Option.map_eq_some_iff.1 hy
          rw [List.getElem?_range (by rw [h2] at hq; exact hq)] at hq'
          cases hq'
          exact (hxx i row j v g1 g2).2
  | ptr k i j x hL hx hh =>
    rw [V.pure] at hpure
    cases hb : h.get k with
    | none => rw [hb] at hpure; cases hpure
    | some b =>
      rw [hb] at hpure
      cases hvec : b.vec with
      | true => simp only [hvec, cond_true] at hpure; cases hpure
      | false =>
      cases hq : holdsL b.sh (V.pure0L h (b.rows.getD i [])) with
      | true => simp only [hvec, hq, cond_false, cond_true] at hpure; cases hpure
      | false => simp only [hvec, hq, cond_false] at hpure; cases hpure
  | mp k x hL hx hh =>
    rw [V.pure] at hpure
    cases hb : h.get k with
    | none => rw [hb] at hpure; cases hpure
    | some b =>
      rw [hb] at hpure
      cases hq : b.isMp with
      | true => simp only [hq, cond_true] at hpure; cases hpure
      | false => simp only [hq, cond_false] at hpure; cases hpure
  | _ => simp [V.pure] at hpure
theorem opAppend_ok {n0 A0 L w t h a E} (S : SRel n0 A0 L w t h a E) {id : Nat} (hid : ¬ L id) {ty tx rt : TypeId} {vx vy : V} {xx xy : Value} (hx : VRel w h L E (Ab n0 A0 w h E) vx xx) (hy : VRel w h L E (Ab n0 A0 w h E) vy xy) {v e fz}
    (h1 : opAppend P ty tx h vx vy id = ⟨true, v, e, fz⟩) : OpOK P n0 A0 L w t h a id v e fz ((Builtin.append_ #[ty, tx] rt #[xx, xy]).run P w) := by
  unfold opAppend at h1
  simp only at h1
  split at h1
  · rename_i sh' new hpure
    cases hc : CK.beqL (ck P (elemT P ty)) sh' && slT P ty && slT P tx && zeroOK P (elemT P ty) && Nat.blt 0 (szOf P (elemT P ty)) && Nat.blt 0 (bytesOfT P (elemT P ty)) && (ck P (elemT P ty)).all CK.plain with
    | false => rw [hc] at h1; simp [OR.fail] at h1
    | true =>
    rw [hc] at h1
    simp only [cond_true] at h1
    simp only [Bool.and_eq_true] at hc
    obtain ⟨⟨⟨⟨⟨⟨hsh, hsl⟩, hslx⟩, hz⟩, h0⟩, hby⟩, hpl⟩ := hc
    have hsh := CK.beqL_eq hsh
    obtain ⟨el, hu, he, hok⟩ := slT_iff hsl
    obtain ⟨e', hk, _, _⟩ := slT_iff hslx
    rw [he] at hsh hz h0 hby hpl h1
    have h0 : 0 < szOf P el := by simpa [Nat.blt_eq] using h0
    have hby : 0 < bytesOfT P el := by simpa [Nat.blt_eq] using hby
    subst hsh
    obtain ⟨news, hsrc, hnl, hnr, hnf⟩ := src_of_val (P := P) S hk hpl hy hpure
    obtain ⟨_, z, hzr, hzi, hz1, hz2, hz3, hzz⟩ := zeroOK_rel hz
    obtain ⟨i, hi, hiz⟩ := Option.bind_eq_some_iff.1 hzi
    have hisz : szOf P el = i.size := by simp [szOf, hi]
    split at h1
    · rename_i k
      split at h1
      · rename_i b hb
        cases hc : CK.beqL (ck P el) b.sh && !b.fr && b.vec with
        | false => rw [hc] at h1; simp [OR.fail] at h1
        | true =>
        rw [hc] at h1
        simp only [cond_true, OR.mk.injEq] at h1
        obtain ⟨hroom, rfl, rfl, rfl⟩ := h1
        have hroom : ((b.rows.length : Int) + (new.length : Int)) * (bytesOfT P el : Int) ≤ roomB := by
          have := roomOK_le.1 hroom; rwa [Int.natCast_add] at this
        simp only [Bool.and_eq_true, Bool.not_eq_true'] at hc
        obtain ⟨⟨hbs, hfr⟩, hvec⟩ := hc
        have hbs := CK.beqL_eq hbs
        have Sd := S.del k
        have hxv : xx = E.hd k := by
          cases hx with
          | pure hd => cases hd
          | vs _ _ _ _ hh => exact hh b hb
        subst hxv
        have hmem := (S.hb k b hb).memV (isMap_vec hvec)
        obtain ⟨hlen, hfit, _⟩ := S.hb k b hb
        have hfit := hfit hvec
        rw [hbs] at hsrc hnl hnr hnf ⊢
        unfold OpOK
        simp only [freeze_nil, Eff.run]
        rcases hmem with ⟨hm, _, hr0, hh0⟩ | ⟨r, cs, T, hm, hw, hcell, hhd⟩
        · rw [hr0, hh0]
          rw [hr0] at hroom
          by_cases hn : new = []
          · subst hn
            have hrun : (Builtin.append_ #[ty, tx] rt #[.slice none 0 0, xy]).run P w = .ok (.slice none 0 0) w := by
              have hlen := hsrc.len w
              have hcl := hsrc.cells
              simp only [List.length_nil] at hlen hcl
              rcases hsrc.kind with ⟨e2, hk2⟩ | hk2 <;> simp [Builtin.append_, run_underlying hu, run_underlying hk2, sizeOf, typeInfo, hi, hlen, ← hisz, ← hz3, hbs, hcl]
            have S' := Sd.new (blk := ⟨true, b.sh, [] ++ [], false⟩) (hd := .slice none 0 0) none hid (Below.refl _ _) (fun r hr => by cases hr) (fun r hr => by cases hr) (fun _ r hr => by cases hr) (.inl ⟨rfl, rfl, rfl, rfl⟩)
            exact ⟨_, _, _, hrun, Below.refl _ _, S', .vs id _ (.inr rfl) ⟨_, _, _, rfl⟩ fun b hb => by simp [Emb.set]⟩
          · have hnp : 0 < new.length := List.length_pos_iff.2 hn
            obtain ⟨x, w', E', g1, g2, g3, g4⟩ := append_grow (P := P) Sd hid (rt := rt) hu hk (sh := b.sh) hbs hz h0 hby (rows := []) (new := new) (base := none) (cap := 0) hsrc hnl
              (fun i r j v h1 h2 => by obtain ⟨y, hy, hd⟩ := hnr i r j v h1 h2; exact ⟨y, hy, hd.mono fun q hq => ⟨hq.del k, rfl⟩⟩) hnf (fun r hr => by cases hr) [] (by simp) (run_firstCells_none _ _ _ _ _) (fun i r j v h1 => by simp at h1) hroom (by simp; omega)
            exact ⟨x, w', E', g1, g2, g3, g4⟩
        · obtain ⟨cap, hcap, hle, hcs⟩ := hhd hvec
          rw [hcap]
          have hss : b.sh.length = i.size := by rw [← hbs, hz3, hisz]
          by_cases hrm : b.rows.length + new.length ≤ cap
          ·
            have hbnd : b.rows.length * b.sh.length + news.length ≤ cs.size := by
              rw [hnl, ← Nat.add_mul]
              exact Nat.le_trans (Nat.mul_le_mul_right _ hrm) hcs
            have hrun := run_append_room_src (P := P) w ty tx rt el i hu hi r 0 b.rows.length cap xy new.length news (by rw [← hss]; exact hsrc) hrm (fun j hj => by
              have hlt : b.rows.length * i.size + j < cs.size := by rw [← hss]; omega
              simp [World.cell?, hw, Array.getElem?_eq_getElem hlt]) (fun j hj => by simp [World.frozen?, hw])
            have hw'h := setCells_heap r news (0 + b.rows.length * i.size) w cs hw
            have hrest := setCells_rest r news (0 + b.rows.length * i.size) w
            have hall : ∀ r ∈ b.rows ++ new, FitsL b.sh r := fun r hr => (List.mem_append.1 hr).elim (hfit r) (hnf r)
            have S' := S.app (w' := w.setCells r (0 + b.rows.length * i.size) news) (blk := ⟨true, b.sh, b.rows ++ new, false⟩) (hd := .slice (some ⟨r, 0, none⟩) (b.rows.length + new.length) cap) hb hfr hid (.inl hm) hw'h (by omega)
              (fun q _ hq => setCells_other r _ _ w q hq) (fun r hr => (hall r hr).1.symm) (fun _ => hall) rfl (fun q row j v g1 g2 => by
                have hj : j < b.sh.length := by
                  have h2 := (List.getElem?_eq_some_iff.1 g2).1
                  have h3 := (hall row (List.mem_of_getElem? g1)).1
                  omega
                rw [wrCells_get _ _ _ _ (by rw [← hss]; omega), ← hss]
                simp only at g1 ⊢
                rw [List.getElem?_append] at g1
                split at g1
                · rename_i hq
                  obtain ⟨y, hy, hd⟩ := hcell q row j v g1 g2
                  have : (q + 1) * b.sh.length ≤ b.rows.length * b.sh.length := Nat.mul_le_mul_right _ hq
                  rw [Nat.succ_mul] at this
                  rw [if_neg (by omega)]
                  rw [if_pos hvec] at hd
                  exact ⟨y, hy, hd⟩
                · rename_i hq
                  obtain ⟨y, hy, hd⟩ := hnr (q - b.rows.length) row j v g1 g2
                  have hlt : (q - b.rows.length) * b.sh.length + j < news.length := (List.getElem?_eq_some_iff.1 hy).1
                  have e : q * b.sh.length + j = b.rows.length * b.sh.length + ((q - b.rows.length) * b.sh.length + j) := by
                    rw [Nat.sub_mul]
                    have : b.rows.length * b.sh.length ≤ q * b.sh.length := Nat.mul_le_mul_right _ (by omega)
                    omega
                  rw [if_pos (by omega), e]
                  rw [show b.rows.length * b.sh.length + ((q - b.rows.length) * b.sh.length + j) - (0 + b.rows.length * b.sh.length) = (q - b.rows.length) * b.sh.length + j by omega]
                  exact ⟨y, hy, hd⟩) ⟨cap, by simp, by simpa using hrm, by rw [wrCells_size]; exact hcs⟩
            exact ⟨_, _, _, hrun, Below.setCells (S.own k b r hb hm).1 _ _ _, S', .vs id _ (.inr rfl) ⟨_, _, _, rfl⟩ fun b hb => by simp [Emb.set]⟩
          · have hgrow : cap < b.rows.length + new.length := by omega
            have hg : ∀ (i : Nat) (r : List V) (j : Nat) (v : V), b.rows[i]? = some r → r[j]? = some v → cs[i * b.sh.length + j]? = some (cs.getD (i * b.sh.length + j) undef) ∧ DRel w (Ab n0 A0 w h E) v (cs.getD (i * b.sh.length + j) undef) := by
              intro i row j v h1 h2
              obtain ⟨x, hx, hv⟩ := hcell i row j v h1 h2
              rw [if_pos hvec] at hv
              have e : cs.getD (i * b.sh.length + j) undef = x := by simp [Array.getD_eq_getD_getElem?, hx]
              rw [e]
              exact ⟨hx, hv⟩
            obtain ⟨olds, hol, hox, hoex⟩ := cells_of_rows (A := Ab n0 A0 w h E) (w := w) hfit (fun q => cs.getD q undef) (fun i r j v h1 h2 => (hg i r j v h1 h2).2)
            obtain ⟨x, w', E', g1, g2, g3, g4⟩ := append_grow (P := P) Sd hid (rt := rt) hu hk (sh := b.sh) hbs hz h0 hby (rows := b.rows) (new := new) (base := some ⟨r, 0, none⟩) (cap := cap) hsrc hnl
              (fun i r j v h1 h2 => by obtain ⟨y, hy, hd⟩ := hnr i r j v h1 h2; exact ⟨y, hy, hd.mono fun q hq => ⟨hq.del k, rfl⟩⟩) hnf hfit olds hol
              (run_firstCells_some w.drew b.sh.length b.rows.length ⟨r, 0, none⟩ b.rows.length cap olds hol (fun q u hu => by
                have hq : q < b.rows.length * b.sh.length := by rw [← hol]; exact (List.getElem?_eq_some_iff.1 hu).1
                obtain ⟨i, j, row, v, e, h1, h2, _⟩ := hoex q hq
                rw [Addr.add_mid, hox q u hu, e]
                have := (hg i row j v h1 h2).1
                show w.cell? _ = _
                simp only [World.cell?, hw, Nat.zero_add]
                exact this)) (fun i row j v h1 h2 => by
                have hi2 := (List.getElem?_eq_some_iff.1 h1).1
                have hj : j < b.sh.length := by have := (List.getElem?_eq_some_iff.1 h2).1; have := hlen row (List.mem_of_getElem? h1); omega
                have hq : i * b.sh.length + j < olds.length := by
                  rw [hol]
                  have : (i + 1) * b.sh.length ≤ b.rows.length * b.sh.length := Nat.mul_le_mul_right _ hi2
                  rw [Nat.succ_mul] at this; omega
                refine ⟨olds[i * b.sh.length + j], List.getElem?_eq_getElem hq, ?_⟩
                rw [hox _ _ (List.getElem?_eq_getElem hq)]
                exact (hg i row j v h1 h2).2.mono fun q hq => ⟨hq.del k, rfl⟩) hroom hgrow
            exact ⟨x, w', E', g1, g2, g3, g4⟩
      · simp [OR.fail] at h1
    · rename_i sh0
      simp only [OR.mk.injEq] at h1
      obtain ⟨hroom, rfl, rfl, rfl⟩ := h1
      have hroom : (new.length : Int) * (bytesOfT P el : Int) ≤ roomB := roomOK_le.1 hroom
      have hxv : xx = .slice none 0 0 := by
        cases hx with
        | pure hd => cases hd
        | nils => rfl
      subst hxv
      unfold OpOK
      simp only [freeze_nil, Eff.run]
      by_cases hn : new = []
      · subst hn
        have hrun : (Builtin.append_ #[ty, tx] rt #[.slice none 0 0, xy]).run P w = .ok (.slice none 0 0) w := by
          have hlen := hsrc.len w
          have hcl := hsrc.cells
          simp only [List.length_nil] at hlen hcl
          rcases hsrc.kind with ⟨e2, hk2⟩ | hk2 <;> simp [Builtin.append_, run_underlying hu, run_underlying hk2, sizeOf, typeInfo, hi, hlen, ← hisz, ← hz3, hcl]
        have S' := S.new (blk := ⟨true, ck P el, [], false⟩) (hd := .slice none 0 0) none hid (Below.refl _ _) (fun r hr => by cases hr) (fun r hr => by cases hr) (fun _ r hr => by cases hr) (.inl ⟨rfl, rfl, rfl, rfl⟩)
        exact ⟨_, _, _, hrun, Below.refl _ _, S', .vs id _ (.inr rfl) ⟨_, _, _, rfl⟩ fun b hb => by simp [Emb.set]⟩
      · have hnp : 0 < new.length := List.length_pos_iff.2 hn
        obtain ⟨x, w', E', g1, g2, g3, g4⟩ := append_grow (P := P) S hid (rt := rt) hu hk (sh := ck P el) rfl hz h0 hby (rows := []) (new := new) (base := none) (cap := 0) hsrc hnl hnr hnf (fun r hr => by cases hr) [] (by simp) (run_firstCells_none _ _ _ _ _)
          (fun i r j v h1 => by simp at h1) (by simpa using hroom) (by simp; omega)
        exact ⟨x, w', E', g1, g2, g3, g4⟩
    · simp [OR.fail] at h1
  · simp [OR.fail] at h1
end
end Go.Vm
