import Derived.Test.YtoldachfmeghkaaGreatVmOps6
import Derived.Laws.IdiomCopy
set_option linter.unusedVariables false
namespace Go.Vm
section
variable {P : Program}
def DataAt (w : World) (A : Nat → Prop) (sh : List CK) (new : List (List V)) (x : Value) : Prop :=
  (∀ r ∈ new, FitsL sh r) ∧ ((new = [] ∧ ∃ a cap, x = .slice a 0 cap) ∨ ∃ (b off cap : Nat) (f : Nat → Value), x = .slice (some ⟨b, off, none⟩) new.length cap ∧
    ∀ (i : Nat) (r : List V) (j : Nat) (v : V), new[i]? = some r → r[j]? = some v → w.cell? ⟨b, off + (i * sh.length + j), none⟩ = some (f (i * sh.length + j)) ∧ DRel w A v (f (i * sh.length + j)))
theorem dataAt_of_val {n0 A0 L w t h a E} (S : SRel n0 A0 L w t h a E) {sh : List CK} {new : List (List V)} {vy : V} {xy : Value} (hy : VRel w h L E (Ab n0 A0 w h E) vy xy) (hpure : V.pure h vy = .data sh new) : DataAt w (Ab n0 A0 w h E) sh new xy := by
  cases hy with
  | pure hd =>
    cases hd with
    | none sh' a cap =>
      have hp2 : V.data sh' [] = V.data sh new := hpure
      cases hp2
      exact ⟨fun r hr => (by cases hr), .inl ⟨rfl, _, _, rfl⟩⟩
    | data sh' rows b off cap f hA hcap hf hm hc =>
      have hp2 : V.data sh' rows = V.data sh new := hpure
      cases hp2
      exact ⟨hf, .inr ⟨b, off, cap, f, rfl, fun i r j v h1 h2 => ⟨hm i r j v h1 h2, hc i r j v h1 h2⟩⟩⟩
    | _ => simp [V.pure] at hpure
  | nils sh' =>
    have hp2 : V.data sh' [] = V.data sh new := hpure
    cases hp2
    exact ⟨fun r hr => (by cases hr), .inl ⟨rfl, _, _, rfl⟩⟩
  | vs k x hL hx hh =>
    rw [V.pure] at hpure
    cases hb : h.get k with
    | none => rw [hb] at hpure; cases hpure
    | some b =>
      rw [hb] at hpure
      cases hvec : b.vec with
      | false => simp [hvec] at hpure
      | true =>
        simp only [hvec, cond_true, V.data.injEq] at hpure
        obtain ⟨rfl, rfl⟩ := hpure
        have hmem := (S.hb k b hb).memV (isMap_vec hvec)
        obtain ⟨hlen, hfit, _⟩ := S.hb k b hb
        have := hh b hb
        subst this
        rcases hmem with ⟨_, _, h0, hh⟩ | ⟨r, cs, T, hm, hw, hcell, hhd⟩
        · rw [h0, hh]; exact ⟨fun r hr => (by cases hr), .inl ⟨rfl, _, _, rfl⟩⟩
        · obtain ⟨cap, hcap, _⟩ := hhd hvec
          rw [hcap]
          refine ⟨hfit hvec, .inr ⟨r, 0, cap, fun q => cs.getD q undef, rfl, fun i row j v h1 h2 => ?_⟩⟩
          obtain ⟨x, hx, hv⟩ := hcell i row j v h1 h2
          rw [if_pos hvec] at hv
          have e : cs.getD (i * b.sh.length + j) undef = x := by simp [Array.getD_eq_getD_getElem?, hx]
          simp only [e]
          exact ⟨by simp [World.cell?, hw, hx], hv⟩
  | sub k lo hi x hL hx hh =>
    rw [V.pure] at hpure
    cases hb : h.get k with
    | none => rw [hb] at hpure; cases hpure
    | some b =>
      rw [hb] at hpure
      cases hvec : b.vec with
      | false => simp [hvec] at hpure
      | true =>
        simp only [hvec, cond_true, V.data.injEq] at hpure
        obtain ⟨rfl, rfl⟩ := hpure
        have hmem := (S.hb k b hb).memV (isMap_vec hvec)
        obtain ⟨hlen, hfit, _⟩ := S.hb k b hb
        obtain ⟨g1, g2, g3⟩ := hh b hb
        have hall : ∀ r ∈ (b.rows.take hi).drop lo, FitsL b.sh r := fun r hr => hfit hvec r (List.mem_of_mem_take (List.mem_of_mem_drop hr))
        have hrl : ((b.rows.take hi).drop lo).length = hi - lo := by simp; omega
        refine ⟨hall, ?_⟩
        rcases g3 with ⟨gm, rfl⟩ | ⟨r', off, cap, gm, hcap, hoff, rfl⟩
        · rcases hmem with ⟨_, _, h0, _⟩ | ⟨r, cs, T, hm, _⟩
          · exact .inl ⟨by rw [h0]; simp, _, _, rfl⟩
          · rw [hm] at gm; cases gm
        · rcases hmem with ⟨hm, _⟩ | ⟨r, cs, T, hm, hw, hcell, _⟩
          · rw [hm] at gm; cases gm
          rw [hm] at gm; cases gm
          refine .inr ⟨r', off, cap, fun q => cs.getD (off + q) undef, by rw [hrl], fun i row j v h1 h2 => ?_⟩
          obtain ⟨x, hx, hv⟩ := hcell (lo + i) row j v (subGet h1) h2
          rw [if_pos hvec] at hv
          have hi' := (List.getElem?_eq_some_iff.1 h1).1
          have e0 : off + (i * b.sh.length + j) = (lo + i) * b.sh.length + j := by rw [hoff (by omega), Nat.add_mul]; omega
          simp only [e0]
          have e : cs.getD ((lo + i) * b.sh.length + j) undef = x := by simp [Array.getD_eq_getD_getElem?, hx]
          simp only [e]
          exact ⟨by simp [World.cell?, hw, hx], hv⟩
  | ptr k i j x hL hx hh =>
    rw [V.pure] at hpure
    cases hb : h.get k with
    | none => rw [hb] at hpure; cases hpure
    | some b =>
      rw [hb] at hpure
      cases hvec : b.vec with
      | true => simp only [hvec, cond_true] at hpure; cases hpure
      | false =>
      cases hq : holdsL b.sh (V.pure0L h (b.rows.getD i [])) with
      | true => simp only [hvec, hq, cond_false, cond_true] at hpure; cases hpure
      | false => simp only [hvec, hq, cond_false] at hpure; cases hpure
  | mp k x hL hx hh =>
    rw [V.pure] at hpure
    cases hb : h.get k with
    | none => rw [hb] at hpure; cases hpure
    | some b =>
      rw [hb] at hpure
      cases hq : b.isMp with
      | true => simp only [hq, cond_true] at hpure; cases hpure
      | false => simp only [hq, cond_false] at hpure; cases hpure
  | _ => simp [V.pure] at hpure
theorem SRel.get_congr {n0 A0 L w t h a E} (S : SRel n0 A0 L w t h a E) {h' : Heap} (hg : ∀ k, h'.get k = h.get k) : SRel n0 A0 L w t h' a E := by
  have hA : ∀ b, Ab n0 A0 w h E b → Ab n0 A0 w h' E b ∧ w.heap[b]? = w.heap[b]? := fun b hb => ⟨⟨hb.1, hb.2.1, fun k bl hk => hb.2.2 k bl (by rw [← hg]; exact hk)⟩, rfl⟩
  have hh : ∀ k b', L k → h'.get k = some b' → ∃ b, h.get k = some b ∧ b.rows.length ≤ b'.rows.length ∧ b.sh = b'.sh ∧ E.m k = E.m k ∧ E.hd k = E.hd k := fun k b' _ hb => ⟨b', by rw [← hg]; exact hb, Nat.le_refl _, rfl, rfl, rfl⟩
  refine S.trans (Nat.le_refl _) (fun _ h => h) hA hh (fun k b hb => ?_) (fun k b hb => S.hl k b (by rw [← hg]; exact hb)) (fun k b r hb => S.own k b r (by rw [← hg]; exact hb)) (fun k b k' b' r hb hb' => S.inj k b k' b' r (by rw [← hg]; exact hb) (by rw [← hg]; exact hb'))
  exact (S.hb k b (by rw [← hg]; exact hb)).mono hA (fun _ h => h) hh rfl rfl (fun _ _ => rfl)
theorem putRows_len : ∀ (rows : List (List V)) (at_ : Nat) (new : List (List V)), (putRows rows at_ new).length = rows.length
  | [], _, _ => by simp [putRows]
  | r :: rs, 0, [] => by simp [putRows]
  | _ :: rs, 0, n :: ns => by simp only [putRows, List.length_cons, putRows_len rs 0 ns]
  | r :: rs, k + 1, new => by simp only [putRows, List.length_cons, putRows_len rs k new]
theorem putRows_nil : ∀ (rows : List (List V)) (at_ : Nat), putRows rows at_ [] = rows
  | [], _ => by simp [putRows]
  | r :: rs, 0 => by simp [putRows]
  | r :: rs, k + 1 => by simp only [putRows, putRows_nil rs k]
theorem putRows_get : ∀ {rows : List (List V)} {at_ i : Nat} {new : List (List V)} {r : List V}, (putRows rows at_ new)[i]? = some r → (at_ ≤ i ∧ i < at_ + new.length ∧ new[i - at_]? = some r) ∨ ((i < at_ ∨ at_ + new.length ≤ i) ∧ rows[i]? = some r)
  | [], at_, i, new, r, h => by simp [putRows] at h
  | q :: rs, 0, i, [], r, h => .inr ⟨.inr (Nat.zero_le _), by simpa [putRows] using h⟩
  | q :: rs, 0, 0, n :: ns, r, h => .inl ⟨Nat.le_refl _, by simp, by simpa [putRows] using h⟩
  | q :: rs, 0, i + 1, n :: ns, r, h => by
    simp only [putRows, List.getElem?_cons_succ] at h
    rcases putRows_get h with ⟨h1, h2, h3⟩ | ⟨h1, h3⟩
    · exact .inl ⟨by omega, by simp; omega, by simpa using h3⟩
    · exact .inr ⟨.inr (by simp at h1 ⊢; omega), by simpa using h3⟩
  | q :: rs, k + 1, 0, new, r, h => .inr ⟨.inl (by omega), by simpa [putRows] using h⟩
  | q :: rs, k + 1, i + 1, new, r, h => by
    simp only [putRows, List.getElem?_cons_succ] at h
    rcases putRows_get h with ⟨h1, h2, h3⟩ | ⟨h1, h3⟩
    · exact .inl ⟨by omega, by omega, by rw [show i + 1 - (k + 1) = i - k by omega]; exact h3⟩
    · exact .inr ⟨by omega, by simpa using h3⟩
theorem own_rel {n0 A0 L w t h a E} (S : SRel n0 A0 L w t h a E) {vx : V} {xx : Value} (hx : VRel w h L E (Ab n0 A0 w h E) vx xx) {k lo n : Nat} {b : Blk} (ho : ownOf h vx = some (k, lo, n, b)) (hvec : b.vec = true) :
    h.get k = some b ∧ L k ∧ lo + n ≤ b.rows.length ∧ ∃ base cap, xx = .slice base n cap ∧ ((E.m k = none ∧ base = none ∧ n = 0) ∨ ∃ r off, E.m k = some r ∧ base = some ⟨r, off, none⟩ ∧ (0 < n → off = lo * b.sh.length)) := by
  cases vx <;> try (simp [ownOf] at ho; done)
  · simp only [ownOf] at ho
    split at ho
    · rename_i b0 hb
      simp only [Option.some.injEq, Prod.mk.injEq] at ho
      obtain ⟨rfl, rfl, rfl, rfl⟩ := ho
      cases hx with
      | pure hd => cases hd
      | vs _ _ hL _ hh =>
        have := hh _ hb
        subst this
        refine ⟨hb, hL, by omega, ?_⟩
        rcases (S.hb _ _ hb).memV (isMap_vec hvec) with ⟨hm, _, h0, hh0⟩ | ⟨r, cs, T, hm, hw, hcell, hhd⟩
        · exact ⟨none, 0, by rw [hh0, h0]; rfl, .inl ⟨hm, rfl, by rw [h0]; rfl⟩⟩
        · obtain ⟨cap, hcap, _⟩ := hhd hvec
          exact ⟨_, cap, hcap, .inr ⟨r, 0, hm, rfl, fun _ => by simp⟩⟩
    · cases ho
  · simp only [ownOf] at ho
    split at ho
    · rename_i b0 hb
      simp only [Option.some.injEq, Prod.mk.injEq] at ho
      obtain ⟨rfl, rfl, rfl, rfl⟩ := ho
      cases hx with
      | pure hd => cases hd
      | sub _ _ _ _ hL _ hh =>
        obtain ⟨g1, g2, g3⟩ := hh _ hb
        refine ⟨hb, hL, by omega, ?_⟩
        rcases g3 with ⟨gm, rfl⟩ | ⟨r, off, cap, gm, hcap, hoff, rfl⟩
        · rcases (S.hb _ _ hb).memV (isMap_vec hvec) with ⟨_, _, h0, _⟩ | ⟨r, cs, T, hm, _⟩
          · rw [h0] at g2
            simp at g2
            refine ⟨none, 0, ?_, .inl ⟨gm, rfl, by omega⟩⟩
            congr 1; omega
          · rw [hm] at gm; cases gm
        · exact ⟨_, cap, rfl, .inr ⟨r, off, gm, rfl, fun h => hoff (by omega)⟩⟩
    · cases ho
theorem opCopy_ok {n0 A0 L w t h a E} (S : SRel n0 A0 L w t h a E) {id : Nat} {ty tx rt : TypeId} {vx vy : V} {xx xy : Value} (hx : VRel w h L E (Ab n0 A0 w h E) vx xx) (hy : VRel w h L E (Ab n0 A0 w h E) vy xy) {v e fz}
    (h1 : opCopy P ty tx h vx vy = ⟨true, v, e, fz⟩) : OpOK P n0 A0 L w t h a id v e fz ((Builtin.copy_ #[ty, tx] rt #[xx, xy]).run P w) := by
  unfold opCopy at h1
  simp only at h1
  split at h1
  · rename_i sh' new k lo n b hpure hown
    simp only [OR.mk.injEq, Bool.and_eq_true, Bool.not_eq_true'] at h1
    obtain ⟨⟨⟨⟨⟨⟨⟨⟨⟨hsh, hbs⟩, hsl⟩, hslx⟩, h1z⟩, hl1⟩, hpl⟩, hfr⟩, hvec⟩, rfl, rfl, rfl⟩ := h1
    have hsh := CK.beqL_eq hsh
    have hbs := CK.beqL_eq hbs
    obtain ⟨el, hu, he, hok⟩ := slT_iff hsl
    rw [he] at hsh hbs h1z hl1 hpl
    have h1z := Nat.eq_of_beq_eq_true h1z
    have hl1 := Nat.eq_of_beq_eq_true hl1
    subst hsh
    obtain ⟨hb, hL, hle, base, dcap, rfl, hbase⟩ := own_rel S hx hown hvec
    obtain ⟨hnf, hdat⟩ := dataAt_of_val S hy hpure
    have hsz : (P.info? el).map (·.size) = some 1 := by
      unfold szOf at h1z
      cases hi : P.info? el with
      | none => rw [hi] at h1z; simp at h1z
      | some i => rw [hi] at h1z; simpa using h1z
    have hb1 : b.sh.length = 1 := by rw [← hbs]; exact hl1
    unfold OpOK
    simp only [freeze_nil, Eff.run]
    have hnl : (new.take n).length = min new.length n := by rw [List.length_take, Nat.min_comm]
    by_cases hm0 : min new.length n = 0
    · have hrun : (Builtin.copy_ #[ty, tx] rt #[.slice base n dcap, xy]).run P w = .ok (goInt 0) w := by
        rcases hdat with ⟨h0, sa, scap, rfl⟩ | ⟨b', off, cap, f, rfl, _⟩
        · exact run_copy_none w ty tx rt el base sa n dcap 0 scap hu hsz (by simp)
        · exact run_copy_none w ty tx rt el base _ n dcap new.length cap hu hsz hm0
      have hrows : putRows b.rows lo (new.take n) = b.rows := by
        have : new.take n = [] := List.length_eq_zero_iff.1 (by rw [hnl]; exact hm0)
        rw [this, putRows_nil]
      have hget : ∀ q, (h.ins k { b with rows := putRows b.rows lo (new.take n) }).get q = h.get q := by
        intro q
        rw [Heap.get_ins, hrows]
        split
        · rename_i e; subst e; exact hb.symm
        · rfl
      refine ⟨_, w, E, hrun, Below.refl _ _, (S.get_congr hget).weaken (fun _ h => .inl h), ?_⟩
      rw [hm0]; exact .pure (.int _ _)
    · have hn0 : 0 < n := by omega
      rcases hbase with ⟨_, _, h0⟩ | ⟨r, off, hm, rfl, hoff⟩
      · omega
      have hoff := hoff hn0
      rw [hb1, Nat.mul_one] at hoff
      have hoff := hoff.symm
      subst hoff
      rcases hdat with ⟨h0, _⟩ | ⟨b', o', cap, f, rfl, hcells⟩
      · rw [h0] at hm0; simp at hm0
      have hcell1 : ∀ i, i < new.length → ∃ u, (new.getD i [])[0]? = some u ∧ w.cell? ⟨b', o' + i, none⟩ = some (f i) ∧ DRel w (Ab n0 A0 w h E) u (f i) := by
        intro i hi
        have hr := getD_of (d := ([] : List V)) hi
        have hrl := (hnf _ (List.mem_of_getElem? hr)).1
        rw [hl1] at hrl
        have hu := getD_of (d := V.undef) (i := 0) (l := new.getD i []) (by omega)
        have := hcells i _ 0 _ hr hu
        rw [hl1] at this
        simp only [Nat.mul_one, Nat.add_zero] at this
        exact ⟨_, hu, this.1, this.2⟩
      rcases (S.hb k b hb).memV (isMap_vec hvec) with ⟨hm', _⟩ | ⟨r', cs, T, hm', hw, hcell, hhd⟩
      · rw [hm] at hm'; cases hm'
      rw [hm] at hm'; cases hm'
      have hblen := (S.hb k b hb).len
      have hcs : ∀ q, q < b.rows.length → q < cs.size := by
        intro q hq
        have hr := getD_of (d := ([] : List V)) hq
        have hrl := hblen _ (List.mem_of_getElem? hr)
        rw [hb1] at hrl
        obtain ⟨x, hx, _⟩ := hcell q _ 0 _ hr (getD_of (d := V.undef) (i := 0) (by omega))
        rw [hb1] at hx
        have := (Array.getElem?_eq_some_iff.1 hx).1
        omega
      generalize hM : min new.length n = M at hm0 hnl
      have hcsl : ((List.range M).map f).length = M := by simp
      have hrun := run_copy_cells (P := P) w ty tx rt el r lo n dcap ⟨b', o', none⟩ new.length cap ((List.range M).map f) hu hsz (by rw [hcsl]; exact hM.symm) (fun j v hj => by
          have hjl : j < M := by have := (List.getElem?_eq_some_iff.1 hj).1; simpa using this
          rw [List.getElem?_map, List.getElem?_range hjl] at hj
          simp only [Option.map_some, Option.some.injEq] at hj
          subst hj
          obtain ⟨u, _, hc, _⟩ := hcell1 j (by omega)
          rw [Addr.add_mid]; exact hc) (fun j hj => by
          rw [hcsl] at hj
          have : lo + j < cs.size := hcs _ (by omega)
          simp [World.cell?, hw, Array.getElem?_eq_getElem this]) (fun j hj => by simp [World.frozen?, hw]) (fun v hv => by
          obtain ⟨i, hi, rfl⟩ := List.mem_map.1 hv
          have hil : i < M := by simpa using hi
          obtain ⟨u, hu, _, hd⟩ := hcell1 i (by omega)
          have hr := getD_of (d := ([] : List V)) (i := i) (l := new) (by omega)
          have hc0 := getD_of (d := CK.other) (i := 0) (l := ck P el) (by omega)
          exact ((hnf _ (List.mem_of_getElem? hr)).2 0 _ u hc0 hu).oneCell (List.all_eq_true.1 hpl _ (List.mem_of_getElem? hc0)) hd)
      have hw'h := setCells_heap r ((List.range M).map f) lo w cs hw
      have hrest := setCells_rest r ((List.range M).map f) lo w
      have hbound : lo + (new.take n).length ≤ b.rows.length := by rw [hnl]; omega
      have hput := fun {i r} => putRows_get (rows := b.rows) (at_ := lo) (new := new.take n) (i := i) (r := r)
      have hrowfit : ∀ q ∈ putRows b.rows lo (new.take n), FitsL b.sh q := by
        intro q hq
        obtain ⟨i, hi⟩ := List.mem_iff_getElem?.1 hq
        rcases hput hi with ⟨_, _, h3⟩ | ⟨_, h3⟩
        · rw [← hbs]; exact hnf q (List.mem_of_mem_take (List.mem_of_getElem? h3))
        · exact (S.hb k b hb).fits hvec q (List.mem_of_getElem? h3)
      have S' := S.store (w' := w.setCells r lo ((List.range M).map f)) hb hfr hm hw hw'h hrest.1 (wrCells_size _ _ _) (fun q hq => setCells_other r _ _ w q hq) (fun q hq => (hrowfit q hq).1.symm) (fun _ => hrowfit) (putRows_len _ _ _) (fun i row j v g1 g2 => by
        have hj : j = 0 := by
          have h2 := (List.getElem?_eq_some_iff.1 g2).1
          have h3 := (hrowfit row (List.mem_of_getElem? g1)).1
          omega
        subst hj
        rw [hb1]
        simp only [Nat.mul_one, Nat.add_zero]
        simp only [hvec, if_true]
        rw [wrCells_get _ _ _ _ (by rw [hcsl]; have := hcs (lo + M - 1) (by omega); omega), hcsl]
        rcases hput g1 with ⟨h1, h2, h3⟩ | ⟨h1, h3⟩
        · rw [hnl] at h2
          rw [if_pos (by omega)]
          rw [List.getElem?_take, if_pos (by omega)] at h3
          obtain ⟨u, hu, _, hd⟩ := hcell1 (i - lo) (by omega)
          have hr := getD_of (d := ([] : List V)) (i := i - lo) (l := new) (by omega)
          rw [h3] at hr
          rw [← Option.some.inj hr, g2] at hu
          cases hu
          exact ⟨f (i - lo), by rw [List.getElem?_map, List.getElem?_range (by omega)]; rfl, hd⟩
        · rw [hnl] at h1
          rw [if_neg (by omega)]
          obtain ⟨x, hx, hv⟩ := hcell i row 0 v h3 g2
          rw [if_pos hvec] at hv
          rw [hb1] at hx
          exact ⟨x, by simpa using hx, hv⟩)
      refine ⟨_, _, E, hrun, Below.setCells (S.own k b r hb hm).1 _ _ _, S'.weaken (fun _ h => .inl h), ?_⟩
      rw [hcsl]; exact .pure (.int _ _)
  · simp [OR.fail] at h1
end
end Go.Vm
