import Derived.Test.YtoldachfmeghkaaGreatVmAny6
set_option linter.unusedVariables false
namespace Go.Vm
section
variable {P : Program}
def ChainA (P : Program) (ops : Array Oper) (base : Nat) : List (Nat × Option Nat) → List V → Heap → List V → Heap → Prop
  | [], t, h, tf, hf => tf = t ∧ hf = h
  | x :: U, t, h, tf, hf => ∃ o t1 h1, ops[x.1]? = some o ∧ x.2 = rwOf o t ∧ Step P ops.toList (guardsOf ops.toList) base x.1 o t h t1 h1 ∧ ChainA P ops base U t1 h1 tf hf
def OkPair (ops : Array Oper) (y x : Nat × Option Nat) : Prop := ∀ a b, ops[y.1]? = some a → ops[x.1]? = some b → (pairOK a b = true ∨ pairRW a b y.2 x.2 = true) ∧ apartB ops.toList a b = true
theorem bubble {base : Nat} {ops : Array Oper} {x : Nat × Option Nat} {post : List (Nat × Option Nat)} {tf hf} : ∀ (pre : List (Nat × Option Nat)) (L : Nat → Prop) (t : List V) (h : Heap), AI L base t h → ¬ L (base + x.1) → (∀ y ∈ pre, ¬ L (base + y.1)) → (pre.map (·.1) ++ [x.1]).Nodup → (∀ y ∈ pre, OkPair ops y x) →
    ChainA P ops base (pre ++ x :: post) t h tf hf → ChainA P ops base (x :: (pre ++ post)) t h tf hf
  | [], L, t, h, A, hx, hy, hnd, hok, hc => hc
  | y :: pre, L, t, h, A, hx, hy, hnd, hok, hc => by
    obtain ⟨oy, ty, hhy, hoy, hry, hsy, hc⟩ := hc
    have hnd' : y.1 ∉ (pre.map (·.1) ++ [x.1]) ∧ (pre.map (·.1) ++ [x.1]).Nodup := by
      rw [List.map_cons, List.cons_append, List.nodup_cons] at hnd; exact hnd
    have hyx : y.1 ≠ x.1 := fun e => hnd'.1 (by rw [e]; simp)
    obtain ⟨g, v, e, fz, ho, rfl, rfl⟩ := step_iff.1 hsy
    have A' := A.next (outc_in A ho)
    have hb := bubble pre _ _ _ A' (by rintro (h | h); exact hx h; omega) (fun z hz => by
      rintro (h | h)
      · exact hy z (List.mem_cons_of_mem _ hz) h
      · have : z.1 = y.1 := by omega
        exact hnd'.1 (List.mem_append_left _ (this ▸ List.mem_map_of_mem hz))) hnd'.2 (fun z hz => hok z (List.mem_cons_of_mem _ hz)) hc
    obtain ⟨ox, t2, h2, hox, hrx, hsx, hc2⟩ := hb
    obtain ⟨hp, hap⟩ := hok y (by simp) oy ox hoy hox
    rw [hry, hrx] at hp
    obtain ⟨t1', h1', s1, s2, e1, e2⟩ := swap A (hy y (by simp)) hx hyx hap hp hsy hsx
    exact ⟨ox, t1', h1', hox, hrx.trans e1.symm, s1, oy, t2, h2, hoy, hry.trans e2.symm, s2, hc2⟩
theorem mask_bit {u : Nat} {acc : List Nat} : ∀ {es : List Edge}, Nat.testBit (maskOf acc es) u = true → ∃ e ∈ es, Region.binds .any e = true ∧ (u = e.on ∨ Nat.testBit (acc.getD e.on 0) u = true)
  | [], h => by simp [maskOf] at h
  | e :: r, h => by
    simp only [maskOf] at h
    cases hb : Region.binds .any e with
    | false =>
      rw [hb] at h
      obtain ⟨e', he, h1, h2⟩ := mask_bit h
      exact ⟨e', List.mem_cons_of_mem _ he, h1, h2⟩
    | true =>
      rw [hb] at h
      simp only [cond_true, Nat.testBit_or, Bool.or_eq_true] at h
      rcases h with (h | h) | h
      · exact ⟨e, by simp, hb, .inl (by rw [Nat.testBit_two_pow] at h; simp at h; exact h.symm)⟩
      · exact ⟨e, by simp, hb, .inr h⟩
      · obtain ⟨e', he, h1, h2⟩ := mask_bit h
        exact ⟨e', List.mem_cons_of_mem _ he, h1, h2⟩
theorem befores_spec : ∀ (ops : List Oper) (acc : List Nat), ∃ l, befores ops acc = acc ++ l ∧ l.length = ops.length ∧ ∀ (p : Nat) (o : Oper), ops[p]? = some o → ∃ acc', l[p]? = some (maskOf acc' o.after.toList) ∧ ∀ q, acc'.getD q 0 = (acc ++ l).getD q 0 ∨ acc'.getD q 0 = 0
  | [], acc => ⟨[], by simp [befores], rfl, fun p o h => by simp at h⟩
  | o :: r, acc => by
    obtain ⟨l, h1, h2, h3⟩ := befores_spec r (acc ++ [maskOf acc o.after.toList])
    refine ⟨maskOf acc o.after.toList :: l, by simp [befores, h1], by simp [h2], fun p o' hp => ?_⟩
    cases p with
    | zero =>
      simp only [List.getElem?_cons_zero, Option.some.injEq] at hp
      subst hp
      refine ⟨acc, by simp, fun q => ?_⟩
      by_cases hq : q < acc.length
      · left; simp [List.getD_eq_getElem?_getD, List.getElem?_append_left hq]
      · right; simp [List.getD_eq_getElem?_getD, List.getElem?_eq_none (Nat.le_of_not_lt hq)]
    | succ p =>
      obtain ⟨acc', g1, g2⟩ := h3 p o' (by simpa using hp)
      exact ⟨acc', by simpa using g1, fun q => by simpa using g2 q⟩
theorem waits {ops : List Oper} {i u : Nat} {o : Oper} (ho : ops[i]? = some o) (h : Nat.testBit ((befores ops []).getD i 0) u = true) : ∃ e ∈ o.after, Region.binds .any e = true ∧ (u = e.on ∨ Nat.testBit ((befores ops []).getD e.on 0) u = true) := by
  obtain ⟨l, h1, h2, h3⟩ := befores_spec ops []
  obtain ⟨acc', g1, g2⟩ := h3 i o ho
  rw [h1] at h ⊢
  simp only [List.nil_append] at h g2 ⊢
  have : l.getD i 0 = maskOf acc' o.after.toList := by simp [List.getD_eq_getElem?_getD, g1]
  rw [this] at h
  obtain ⟨e, he, hb, hu⟩ := mask_bit h
  refine ⟨e, by simpa using he, hb, hu.imp_right fun hu => ?_⟩
  rcases g2 e.on with h' | h'
  · rw [← h']; exact hu
  · rw [h'] at hu; simp at hu
theorem back_spec : ∀ (ops : List Oper) (i : Nat), backB i ops = true → ∀ p o, ops[p]? = some o → ∀ e ∈ o.after, Region.binds .any e = true → e.on < i + p
  | [], i, h, p, o, hp => by simp at hp
  | o :: r, i, h, p, o', hp => by
    simp only [backB, Bool.and_eq_true] at h
    cases p with
    | zero =>
      simp only [List.getElem?_cons_zero, Option.some.injEq] at hp
      subst hp
      intro e he hb
      have := List.all_eq_true.1 h.1 e (by simpa using he)
      simpa [hb, Nat.blt_eq] using this
    | succ p =>
      intro e he hb
      have := back_spec r (i + 1) h.2 p o' (by simpa using hp) e he hb
      omega
theorem ord1_spec {ops : List Oper} {m : Nat} {oj : Oper} {rj : Option Nat} : ∀ (l : List (Oper × Option Nat)) (i : Nat), okOrder1 ops m oj rj i l = true → ∀ q y, l[q]? = some y → Nat.testBit m (i + q) = true ∨ ((pairOK y.1 oj = true ∨ pairRW y.1 oj y.2 rj = true) ∧ apartB ops y.1 oj = true)
  | [], i, h, q, y, hq => by simp at hq
  | z :: r, i, h, q, y, hq => by
    simp only [okOrder1, Bool.and_eq_true, Bool.or_eq_true] at h
    cases q with
    | zero =>
      simp only [List.getElem?_cons_zero, Option.some.injEq] at hq
      subst hq; simpa using h.1
    | succ q =>
      have := ord1_spec r (i + 1) h.2 q y (by simpa using hq)
      rwa [show i + 1 + q = i + (q + 1) by omega] at this
theorem ordF_spec {ops : List Oper} : ∀ (rest : List (Oper × Option Nat)) (bs : List Nat) (done : List (Oper × Option Nat)), okOrderFrom ops bs done rest = true → ∀ p x, rest[p]? = some x → okOrder1 ops (bs.getD p 0) x.1 x.2 0 (done ++ rest.take p) = true
  | [], bs, done, h, p, x, hp => by simp at hp
  | y :: rest, [], done, h, p, x, hp => by simp [okOrderFrom] at h
  | y :: rest, m :: bs, done, h, p, x, hp => by
    simp only [okOrderFrom, Bool.and_eq_true] at h
    cases p with
    | zero =>
      simp only [List.getElem?_cons_zero, Option.some.injEq] at hp
      subst hp; simpa using h.1
    | succ p =>
      have := ordF_spec rest bs _ h.2 p x (by simpa using hp)
      simpa using this
theorem order_spec {ops : Array Oper} {rs : List (Option Nat)} (hl : rs.length = ops.size) (h : okOrder ops.toList rs = true) {q i : Nat} (hqi : q < i) {ri rq : Option Nat} (hq : rs[q]? = some rq) (hi : rs[i]? = some ri) :
    Nat.testBit ((befores ops.toList []).getD i 0) q = true ∨ OkPair ops (q, rq) (i, ri) := by
  simp only [okOrder, Bool.and_eq_true] at h
  have hil : i < ops.size := by have := (List.getElem?_eq_some_iff.1 hi).1; omega
  have hiz : (ops.toList.zip rs)[i]? = some (ops[i], ri) := by
    rw [List.getElem?_zip_eq_some]; exact ⟨by simp [hil], hi⟩
  have hqz : (ops.toList.zip rs)[q]? = some (ops[q], rq) := by
    rw [List.getElem?_zip_eq_some]; exact ⟨by simp, hq⟩
  have h1 := ordF_spec _ _ _ h.2 i _ hiz
  have h2 := ord1_spec _ _ h1 q (ops[q], rq) (by rw [List.nil_append, List.getElem?_take, if_pos hqi]; exact hqz)
  rw [Nat.zero_add] at h2
  refine h2.imp_right fun h3 a b ha hb => ?_
  have ea : a = ops[q] := by
    have : ops[q]? = some ops[q] := Array.getElem?_eq_getElem (by omega)
    rw [this] at ha; exact (Option.some.inj ha).symm
  have eb : b = ops[i] := by
    have : ops[i]? = some ops[i] := Array.getElem?_eq_getElem hil
    rw [this] at hb; exact (Option.some.inj hb).symm
  subst ea; subst eb
  exact h3
end
section
variable {P : Program} {R : Type} {callK : Nat → List V → (V → Option R) → Option R}
theorem opsKd_chain (hC : GoodC P callK) {ops : Array Oper} {base : Nat} : ∀ (rest : List Oper) (i : Nat) (rw : List (Option Nat)) (s : St) (k : St → List (Option Nat) → Option R) (r : R), (∀ j o, rest[j]? = some o → ops[i + j]? = some o) →
    opsKd P callK ops.toList (guardsOf ops.toList) base i rest rw s k = some r → ∃ rs tf hf, rs.length = rest.length ∧ ChainA P ops base ((List.range' i rest.length).zip rs) s.t s.h tf hf ∧ k ⟨tf, hf, s.n⟩ (rw ++ rs) = some r
  | [], i, rw, s, k, r, _, h => ⟨[], s.t, s.h, rfl, ⟨rfl, rfl⟩, by simp only [opsKd] at h; simpa using h⟩
  | o :: rest, i, rw, s, k, r, ho, h => by
    simp only [opsKd] at h
    obtain ⟨t', h', hst, hk⟩ := opK_step hC h
    obtain ⟨rs, tf, hf, hl, hch, hk2⟩ := opsKd_chain hC rest (i + 1) (rw ++ [rwOf o s.t]) ⟨t', h', s.n⟩ k r (fun j o' hj => by
      have := ho (j + 1) o' (by simpa using hj)
      rwa [show i + 1 + j = i + (j + 1) by omega]) hk
    refine ⟨rwOf o s.t :: rs, tf, hf, by simp [hl], ?_, by simpa using hk2⟩
    rw [List.length_cons, List.range'_succ, List.zip_cons_cons]
    exact ⟨o, t', h', by simpa using ho 0 o rfl, rfl, hst, hch⟩
end
section
variable {P : Program}
theorem any_wp {n0 A0 base} {ops : Array Oper} {Q : Exit → Act → World → Prop} {tf hf} (hback : backB 0 ops.toList = true) : ∀ (n : Nat) (U : List (Nat × Option Nat)) (listed : Array Bool) (w : World) (t : List V) (h : Heap) (a : Act) (E : Emb), U.length = n →
    (U.map (·.1)).Pairwise (· < ·) → (∀ x ∈ U, x.1 < ops.size) → listed.size = ops.size → (∀ j, j < ops.size → (listed.getD j false = false ↔ j ∈ U.map (·.1))) →
    (∀ j, j < ops.size → j ∉ U.map (·.1) → ∀ u, Nat.testBit ((befores ops.toList []).getD j 0) u = true → u ∉ U.map (·.1)) →
    U.Pairwise (fun y x => Nat.testBit ((befores ops.toList []).getD x.1 0) y.1 = true ∨ OkPair ops y x) →
    RS n0 A0 (LU base ops.size (U.map (·.1))) (guardsOf ops.toList) base w t h a.tmps E → sortedB h = true → ChainA P ops base U t h tf hf →
    (∀ a' w' E', a'.defers = a.defers → Below n0 w w' → RS n0 A0 (LU base ops.size []) (guardsOf ops.toList) base w' tf hf a'.tmps E' → Q .normal a' w') → wpAny P .any ops Q n listed a w := by
  intro n
  induction n with
  | zero =>
    intro U listed w t h a E hn hsorted hlt hls hlist hclosed hpair R hs hch hQ
    have hU : U = [] := List.eq_nil_of_length_eq_zero hn
    subst hU
    obtain ⟨rfl, rfl⟩ := hch
    refine ⟨?_, hQ a w E rfl (Below.refl _ _) R⟩
    apply List.eq_nil_iff_forall_not_mem.2
    intro j hj
    obtain ⟨h0, o, ho, _⟩ := mem_ready.1 hj
    have hjl : j < ops.size := (Array.getElem?_eq_some_iff.1 ho).1
    have h1 : listed.getD j false = listed.getD j true := by simp [Array.getD_eq_getD_getElem?, Array.getElem?_eq_getElem (hls ▸ hjl)]
    rw [h0] at h1
    have := (hlist j hjl).1 h1
    simp at this
  | succ n ih =>
    intro U listed w t h a E hn hsorted hlt hls hlist hclosed hpair R hs hch hQ
    refine ⟨fun hnil => ?_, fun i hi => ?_⟩
    · exfalso
      cases U with
      | nil => simp at hn
      | cons x U =>
        obtain ⟨o, _, _, ho, _⟩ := hch
        have hxl := hlt x (by simp)
        have : x.1 ∈ Region.ready .any ops listed := by
          rw [mem_ready]
          have h0 := (hlist x.1 hxl).2 (by simp)
          have h1 : listed.getD x.1 false = listed.getD x.1 true := by simp [Array.getD_eq_getD_getElem?, Array.getElem?_eq_getElem (hls ▸ hxl)]
          refine ⟨h1 ▸ h0, o, ho, fun e he hb => ?_⟩
          have hlt' := back_spec _ _ hback x.1 o (by simpa using ho) e he hb
          rw [Nat.zero_add] at hlt'
          cases hle : listed.getD e.on false with
          | true => rfl
          | false =>
            have hm := (hlist e.on (by omega)).1 hle
            rw [List.map_cons, List.pairwise_cons] at hsorted
            rw [List.map_cons, List.mem_cons] at hm
            rcases hm with hm | hm
            · omega
            · have := hsorted.1 _ hm; omega
        rw [hnil] at this
        cases this
    · obtain ⟨h0, o, ho, hall⟩ := mem_ready.1 hi
      have hil : i < ops.size := (Array.getElem?_eq_some_iff.1 ho).1
      have h1 : listed.getD i false = listed.getD i true := by simp [Array.getD_eq_getD_getElem?, Array.getElem?_eq_getElem (hls ▸ hil)]
      have hmem := (hlist i hil).1 (h1.trans h0)
      obtain ⟨x, hxU, rfl⟩ := List.mem_map.1 hmem
      obtain ⟨pre, post, rfl⟩ := List.append_of_mem hxU
      have hdone : ∀ u, Nat.testBit ((befores ops.toList []).getD x.1 0) u = true → u ∉ (pre ++ x :: post).map (·.1) := by
        intro u hu
        obtain ⟨e, he, hb, hue⟩ := waits (by simpa using ho) hu
        have hl := hall e he hb
        have hel : e.on < ops.size := by
          rw [← hls]
          apply Nat.lt_of_not_le
          intro hle
          simp [Array.getElem?_eq_none hle] at hl
        have hen : e.on ∉ (pre ++ x :: post).map (·.1) := fun hm => by
          have := (hlist e.on hel).2 hm
          rw [hl] at this; cases this
        rcases hue with rfl | hue
        · exact hen
        · exact hclosed _ hel hen u hue
      have hok : ∀ y ∈ pre, OkPair ops y x := by
        intro y hy
        rw [List.pairwise_append] at hpair
        rcases hpair.2.2 y hy x (by simp) with hb | hb
        · exact absurd (by simp; exact .inl ⟨y.2, by simpa using hy⟩) (hdone _ hb)
        · exact hb
      have hnd : ((pre ++ x :: post).map (·.1)).Nodup := hsorted.imp fun h => Nat.ne_of_lt h
      have hnd2 : (pre.map (·.1) ++ [x.1]).Nodup := by
        rw [List.map_append, List.map_cons] at hnd
        exact hnd.sublist (List.Sublist.append_left (by simp) _)
      have hL : ∀ y ∈ (pre ++ x :: post), ¬ LU base ops.size ((pre ++ x :: post).map (·.1)) (base + y.1) := fun y hy hl => hl.2 y.1 (List.mem_map_of_mem hy) rfl
      have A : AI (LU base ops.size ((pre ++ x :: post).map (·.1))) base t h := AI.of R hs fun k hk => ⟨by omega, fun j _ => by omega⟩
      have hch' := bubble pre _ t h A (hL x (by simp)) (fun y hy => hL y (by simp [hy])) hnd2 hok hch
      obtain ⟨o', t1, h1, ho', _, hst, hch''⟩ := hch'
      rw [ho] at ho'; cases ho'
      have hsub : ((pre ++ post).map (·.1)).Sublist ((pre ++ x :: post).map (·.1)) := (List.Sublist.append_left (by simp) _).map _
      have hxn : x.1 ∉ (pre ++ post).map (·.1) := by
        have hp : ((pre ++ x :: post).map (·.1)).Perm (x.1 :: (pre ++ post).map (·.1)) := by
          exact (List.perm_middle (a := x) (l₁ := pre) (l₂ := post)).map (·.1)
        have := hp.nodup_iff.1 hnd
        exact (List.nodup_cons.1 this).1
      have hs1 : sortedB h1 = true := by
        obtain ⟨_, v, e, fz, _, _, rfl⟩ := step_iff.1 hst
        exact sorted_run _ _ (sorted_freeze _ hs)
      have mem_iff : ∀ j, j ∈ (pre ++ x :: post).map (·.1) ↔ j = x.1 ∨ j ∈ (pre ++ post).map (·.1) := by
        intro j; simp only [List.map_append, List.map_cons, List.mem_append, List.mem_cons]; constructor
        · rintro (h | h | h)
          · exact .inr (.inl h)
          · exact .inl h
          · exact .inr (.inr h)
        · rintro (h | h | h)
          · exact .inr (.inl h)
          · exact .inl h
          · exact .inr (.inr h)
      refine step_sim R ho (hL x (by simp)) hst fun v w' E' hB R' => ?_
      refine ih (pre ++ post) _ w' t1 h1 _ E' (by simp at hn ⊢; omega) (hsorted.sublist hsub) (fun y hy => hlt y (by simp at hy ⊢; rcases hy with h | h <;> simp [h])) (by simp [hls]) (fun j hj => ?_) (fun j hj hjn u hu hm => ?_) (hpair.sublist (List.Sublist.append_left (by simp) _)) (R'.weaken fun k hk => ?_) hs1 hch'' fun a' w'' E'' hd hB' R'' => ?_
      · by_cases e : x.1 = j
        · subst e
          constructor
          · intro hf
            simp [Array.getD_eq_getD_getElem?, Array.getElem?_setIfInBounds, hls, hil] at hf
          · exact fun hm => absurd hm hxn
        · rw [getD_set_ne false e, hlist j hj, mem_iff]
          exact ⟨fun h => h.resolve_left fun h => e h.symm, .inr⟩
      · by_cases e : j = x.1
        · subst e
          exact hdone u hu ((mem_iff u).2 (.inr hm))
        · exact hclosed j hj (fun h => ((mem_iff j).1 h).elim e hjn) u hu ((mem_iff u).2 (.inr hm))
      · rcases hk with ⟨hk1, hk2⟩ | rfl
        · exact ⟨hk1, fun j hj => hk2 j ((mem_iff j).2 (.inr hj))⟩
        · exact ⟨by omega, fun j hj e => hxn (by have : x.1 = j := by omega
                                                 exact this ▸ hj)⟩
      · exact hQ a' w'' E'' (hd.trans (by cases o.dst <;> rfl)) (hB.trans hB') R''
end
end Go.Vm
