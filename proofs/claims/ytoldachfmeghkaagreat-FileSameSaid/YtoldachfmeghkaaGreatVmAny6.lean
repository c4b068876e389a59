import Derived.Test.YtoldachfmeghkaaGreatVmAny5
set_option linter.unusedVariables false
namespace Go.Vm
section
variable {P : Program} {L : Nat → Prop}
def Mild (e : Eff) : Prop := e = .none ∨ ∃ b, e = .new b
theorem mild_get {e : Eff} (he : Mild e) {id k : Nat} (hk : k ≠ id) (h : Heap) : (e.run id h).get k = h.get k := by
  rcases he with rfl | ⟨b, rfl⟩
  · rfl
  · rw [Eff.run, Heap.get_ins, if_neg hk]
theorem coreEq_run {e : Eff} (he : Mild e) {id : Nat} (hid : ¬ L id) (h : Heap) (fz : List Nat) : CoreEq L h (e.run id (h.freeze fz)) := by
  intro k hk
  rw [mild_get he (fun e : k = id => hid (e ▸ hk)), Heap.get_freeze]
  cases h.get k with
  | none => exact .inl ⟨rfl, rfl⟩
  | some b =>
    refine .inr ⟨b, _, rfl, rfl, ?_, ?_, ?_⟩ <;> split <;> rfl
theorem exEq_run {e : Eff} (he : Mild e) {id : Nat} (hid : ¬ L id) (h : Heap) : ExEq L h (e.run id (h.freeze [])) := by
  intro k hk
  rw [mild_get he (fun e : k = id => hid (e ▸ hk)), freeze_nil]
theorem put_get {k : Nat} {b b' : Blk} {h : Heap} {fz : List Nat} (hb : h.get k = some b) (hs : b'.vec = b.vec ∧ b'.sh = b.sh ∧ b'.rows.length = b.rows.length) (id : Nat) : ShapeEq L h ((Eff.put k b').run id (h.freeze fz)) := by
  intro q hq
  rw [Eff.run, Heap.get_ins]
  by_cases e : q = k
  · subst e
    rw [if_pos rfl]
    exact .inr ⟨b, b', hb, rfl, hs.1, hs.2.1, hs.2.2⟩
  · rw [if_neg e, Heap.get_freeze]
    cases h.get q with
    | none => exact .inl ⟨rfl, rfl⟩
    | some c =>
      refine .inr ⟨c, _, rfl, rfl, ?_, ?_, ?_⟩ <;> split <;> rfl
theorem mild_freeze {e : Eff} (he : Mild e) {id : Nat} {fz : List Nat} (hid : id ∉ fz) (h : Heap) : (e.run id h).freeze fz = e.run id (h.freeze fz) := by
  rcases he with rfl | ⟨b, rfl⟩
  · rfl
  · exact freeze_ins hid b h
theorem mild_mild {e1 e2 : Eff} (h1 : Mild e1) (h2 : Mild e2) {i j : Nat} (hij : i ≠ j) (h : Heap) : e2.run j (e1.run i h) = e1.run i (e2.run j h) := by
  rcases h1 with rfl | ⟨b1, rfl⟩
  · rfl
  · rcases h2 with rfl | ⟨b2, rfl⟩
    · rfl
    · exact ins_ins hij b1 b2 h
theorem mild_put {e1 : Eff} (h1 : Mild e1) {i j k : Nat} {b : Blk} (hk : i ≠ k) (h : Heap) : (Eff.put k b).run j (e1.run i h) = e1.run i ((Eff.put k b).run j h) := by
  rcases h1 with rfl | ⟨b1, rfl⟩
  · rfl
  · exact ins_ins hk b1 b h
theorem mild_app {e1 : Eff} (h1 : Mild e1) {i j k : Nat} {b : Blk} (hk : i ≠ k) (hij : i ≠ j) {h : Heap} (hs : sortedB h = true) : (Eff.app k b).run j (e1.run i h) = e1.run i ((Eff.app k b).run j h) := by
  rcases h1 with rfl | ⟨b1, rfl⟩
  · rfl
  · show (Heap.del (h.ins i b1) k).ins j b = ((h.del k).ins j b).ins i b1
    rw [del_ins hk.symm b1 h hs, ins_ins hij]
def HComm (i j : Nat) (h : Heap) (e1 : Eff) (fz1 : List Nat) (e2 : Eff) (fz2 : List Nat) : Prop :=
  e2.run j ((e1.run i (h.freeze fz1)).freeze fz2) = e1.run i ((e2.run j (h.freeze fz2)).freeze fz1)
theorem HComm.symm {i j h e1 fz1 e2 fz2} (c : HComm i j h e1 fz1 e2 fz2) : HComm j i h e2 fz2 e1 fz1 := Eq.symm c
theorem hcomm_none {i j h e2 fz2} : HComm i j h .none [] e2 fz2 := by
  unfold HComm
  rw [freeze_nil, freeze_nil]; rfl
theorem hcomm_mild {i j h e1 fz1 e2 fz2} (hij : i ≠ j) (h1 : Mild e1) (h2 : Mild e2) (f1 : ∀ k ∈ fz1, k ≠ j) (f2 : ∀ k ∈ fz2, k ≠ i) : HComm i j h e1 fz1 e2 fz2 := by
  unfold HComm
  rw [mild_freeze h1 (fun m => f2 i m rfl), mild_freeze h2 (fun m => f1 j m rfl), freeze_freeze, mild_mild h1 h2 hij]
theorem hcomm_put {i j h e1 k b fz2} (hk : i ≠ k) (h1 : Mild e1) (f2 : ∀ k ∈ fz2, k ≠ i) : HComm i j h e1 [] (.put k b) fz2 := by
  unfold HComm
  rw [mild_freeze h1 (fun m => f2 i m rfl), freeze_nil, freeze_nil, mild_put h1 hk]
theorem hcomm_app {i j h e1 k b} (hk : i ≠ k) (hij : i ≠ j) (h1 : Mild e1) (hs : sortedB h = true) : HComm i j h e1 [] (.app k b) [] := by
  unfold HComm
  rw [freeze_nil, freeze_nil, freeze_nil, mild_app h1 hk hij hs]
theorem rw_ld {o : Oper} (h : ldOp o = true) : ∃ ty d, o.op = .load ty (.tmp d) := by
  unfold ldOp at h
  split at h
  · rename_i ty d e; exact ⟨ty, d, e⟩
  · cases h
theorem rw_of_ptr {t : List V} {g : List (Nat × Bool)} {d k i j : Nat} (h : evT t g (.tmp d) = .ptr k i j) : (match t.getD d .undef with
    | .ptr k _ _ => some k
    | .gd _ _ (.ptr k _ _) => some k
    | _ => none) = some k := by
  simp only [evT] at h
  split at h
  · rename_i q w v hv
    rw [hv]
    cases hg : g.any (fun p => Nat.beq q p.1 && (w == p.2)) with
    | false => rw [hg] at h; cases h
    | true => rw [hg] at h; simp only [cond_true] at h; subst h; rfl
  · rw [h]
theorem rw_load {o : Oper} {ty : TypeId} {d : Nat} (ho : o.op = .load ty (.tmp d)) {t : List V} {g} {k i j : Nat} (h : evT t g (.tmp d) = .ptr k i j) : rwOf o t = some k := by
  unfold rwOf; rw [ho]; exact rw_of_ptr h
theorem neN_ne {k k' : Nat} (h : neN (some k) (some k') = true) : k ≠ k' := by
  intro e; subst e; simp [neN] at h
theorem st_rw {o : Oper} (hst : stOp o = true) {t : List V} {g : List (Nat × Bool)} {h : Heap} {id : Nat} {v k b fz} (hr : opV P o t g h id = ⟨true, v, .put k b, fz⟩) : rwOf o t = some k := by
  obtain ⟨dst, op, type, pos, after, guard⟩ := o
  cases op <;> first | (simp [stOp] at hst; done) | skip
  rename_i ty x y
  dsimp only [opV, opD] at hr
  unfold opStore at hr
  split at hr
  · rename_i k0 i j hx
    have hk : k0 = k := by
      split at hr
      · simp only at hr
        revert hr
        cases okT P ty && _ && _ && _ && _ && _ with
        | false => intro hr; simp [OR.fail] at hr
        | true =>
          intro hr
          simp only [cond_true] at hr
          revert hr
          cases Blk.vec _ with
          | true => intro hr; simp only [cond_true, OR.mk.injEq, Eff.put.injEq] at hr; exact hr.2.2.1.1
          | false => intro hr; simp only [cond_false, OR.mk.injEq, Eff.put.injEq] at hr; exact hr.2.2.1.1
      · simp [OR.fail] at hr
    subst hk
    cases x with
    | tmp d => exact rw_of_ptr hx
    | const c =>
      have hr2 := ofValue_refs c
      simp only [evT] at hx
      rw [hx] at hr2
      simp [V.refs] at hr2
    | global g => simp [evT] at hx
    | func f => simp [evT] at hx
  · simp [OR.fail] at hr
theorem outc_put {ops : List Oper} {base i : Nat} {o : Oper} (hst : stOp o = true) {t h v k b fz} (ho : Outc P ops base i o t h v (.put k b) fz) : rwOf o t = some k := by
  have hc : isCall o = none := noCall (.inr (.inr (.inl hst)))
  have h1 : ∀ g id, Outc1 P id o g t h v (.put k b) fz → rwOf o t = some k := by
    intro g id ho
    unfold Outc1 at ho
    rw [hc] at ho
    exact st_rw hst ho.1
  unfold Outc at ho
  split at ho
  · exact h1 _ _ ho
  · obtain ⟨d, _, ⟨_, _, he, _⟩ | ⟨b', _, ho⟩⟩ := ho
    · cases he
    split at ho
    · rcases ho with ⟨_, ho⟩ | ⟨_, _, he, _⟩
      · exact h1 _ _ ho
      · cases he
    · obtain ⟨c, u, _, _, _, _, he, _⟩ := ho
      cases he
theorem memT_of {base i : Nat} {t h} (A : AI L base t h) {ops : List Oper} {a b : Oper} {v1 e1 fz1} (hia : ¬ L (base + i)) (ho : Outc P ops base i a t h v1 e1 fz1) (EA : EffOK L a h e1 fz1) (hp : pairOK a b = true ∨ pairRW a b (rwOf a t) (rwOf b t) = true) : MemT P b t h (e1.run (base + i) (h.freeze fz1)) := by
  have same : e1 = .none ∧ fz1 = [] → MemT P b t h (e1.run (base + i) (h.freeze fz1)) := by
    rintro ⟨rfl, rfl⟩
    rw [freeze_nil]; exact .same
  rcases hp with hp | hp
  · unfold pairOK at hp
    simp only [Bool.or_eq_true, Bool.and_eq_true] at hp
    rcases hp with (((⟨ha, hb⟩ | ⟨ha, hb⟩) | ⟨ha, hb⟩) | ⟨ha, hb⟩) | ⟨ha, hb⟩
    · exact .quiet A hb (coreEq_run (EA.quiet ha) hia h fz1)
    · obtain ⟨rfl, hm⟩ := EA.pt ha
      exact .of (noCall (by rcases hb with (hb | hb) | hb <;> simp [hb])) fun g id => opV_ef (by simpa using hb) (exEq_run hm hia h) A.hh (A.ev g)
    · exact .of (noCall (.inl hb)) fun g id => opV_pt hb
    · exact same (EA.sr (by simp [ha]))
    · rcases EA.st (by simpa using ha) with hs | ⟨k, c, c', hk, rfl, h1, h2, h3, _⟩
      · exact same hs
      · exact .of (noCall (.inr (.inl hb))) fun g id => opV_sr hb (put_get (L := L) hk ⟨h1, h2, h3⟩ _) (A.ev g)
  · unfold pairRW at hp
    simp only [Bool.and_eq_true, Bool.or_eq_true] at hp
    obtain ⟨⟨ha, hb⟩ | ⟨ha, hb⟩, hn⟩ := hp
    · exact same (EA.sr (by simp [ha]))
    · rcases EA.st (by simp [ha]) with hs | ⟨k, c, c', hk, rfl, h1, h2, h3, _⟩
      · exact same hs
      · obtain ⟨ty, d, hop⟩ := rw_ld hb
        refine .of (noCall (.inr (.inr (.inr (.inr (.inl hb)))))) fun g id => ?_
        obtain ⟨dst, op, type, pos, after, guard⟩ := b
        simp only at hop
        subst hop
        dsimp only [opV, opD]
        refine load_one fun k' i' j' hev => ?_
        have hr := rw_load (o := ⟨dst, .load ty (.tmp d), type, pos, after, guard⟩) rfl hev
        rw [outc_put ha ho, hr] at hn
        have hne := neN_ne hn
        rw [Eff.run, Heap.get_ins, if_neg (fun e => hne e.symm), Heap.get_freeze]
        cases h.get k' with
        | none => exact .inl ⟨rfl, rfl⟩
        | some c =>
          refine .inr ⟨c, _, rfl, rfl, ?_, ?_, ?_⟩ <;> split <;> rfl
theorem hcomm_of {base i j : Nat} {t h} (A : AI L base t h) {a b : Oper} {e1 fz1 e2 fz2} (hia : ¬ L i) (hib : ¬ L j) (hij : i ≠ j) (EA : EffOK L a h e1 fz1) (EB : EffOK L b h e2 fz2) {ra rb} (hp : pairOK a b = true ∨ pairRW a b ra rb = true) : HComm i j h e1 fz1 e2 fz2 := by
  have none1 : e1 = .none ∧ fz1 = [] → HComm i j h e1 fz1 e2 fz2 := by rintro ⟨rfl, rfl⟩; exact hcomm_none
  have none2 : e2 = .none ∧ fz2 = [] → HComm i j h e1 fz1 e2 fz2 := by rintro ⟨rfl, rfl⟩; exact hcomm_none.symm
  have f1 : ∀ k ∈ fz1, k ≠ j := fun k hk e => hib (e ▸ EA.fzL k hk)
  have f2 : ∀ k ∈ fz2, k ≠ i := fun k hk e => hia (e ▸ EB.fzL k hk)
  rcases hp with hp | hp
  · unfold pairOK at hp
    simp only [Bool.or_eq_true, Bool.and_eq_true] at hp
    rcases hp with (((⟨ha, hb⟩ | ⟨ha, hb⟩) | ⟨ha, hb⟩) | ⟨ha, hb⟩) | ⟨ha, hb⟩
    · exact hcomm_mild hij (EA.quiet ha) (EB.quiet hb) f1 f2
    · obtain ⟨rfl, hm⟩ := EA.pt ha
      rcases hb with hb | hb
      · rcases EB.st (by simpa using hb) with hs | ⟨k, c, c', hk, rfl, _, _, _, hL⟩
        · exact none2 hs
        · exact hcomm_put (fun e => hia (e ▸ hL)) hm f2
      · obtain ⟨rfl, he | he | ⟨k, c, rfl, hL⟩⟩ := EB.ap hb
        · exact none2 ⟨he, rfl⟩
        · exact hcomm_mild hij hm (.inr he) f1 f2
        · exact hcomm_app (fun e => hia (e ▸ hL)) hij hm A.srt
    · obtain ⟨rfl, hm⟩ := EB.pt hb
      rcases ha with ha | ha
      · rcases EA.st (by simpa using ha) with hs | ⟨k, c, c', hk, rfl, _, _, _, hL⟩
        · exact none1 hs
        · exact (hcomm_put (fun e : j = k => hib (e ▸ hL)) hm f1).symm
      · obtain ⟨rfl, he | he | ⟨k, c, rfl, hL⟩⟩ := EA.ap ha
        · exact none1 ⟨he, rfl⟩
        · exact hcomm_mild hij (.inr he) hm f1 f2
        · exact (hcomm_app (fun e : j = k => hib (e ▸ hL)) hij.symm hm A.srt).symm
    · exact none1 (EA.sr (by simp [ha]))
    · exact none2 (EB.sr (by simp [hb]))
  · unfold pairRW at hp
    simp only [Bool.and_eq_true, Bool.or_eq_true] at hp
    obtain ⟨⟨ha, hb⟩ | ⟨ha, hb⟩, hn⟩ := hp
    · exact none1 (EA.sr (by simp [ha]))
    · exact none2 (EB.sr (by simp [hb]))
theorem pairOK_symm {a b : Oper} (h : pairOK a b = true) : pairOK b a = true := by
  unfold pairOK at h ⊢
  simp only [Bool.or_eq_true, Bool.and_eq_true] at h ⊢
  rcases h with (((⟨ha, hb⟩ | ⟨ha, hb⟩) | ⟨ha, hb⟩) | ⟨ha, hb⟩) | ⟨ha, hb⟩
  · exact .inl (.inl (.inl (.inl ⟨hb, ha⟩)))
  · exact .inl (.inl (.inr ⟨hb, ha⟩))
  · exact .inl (.inl (.inl (.inr ⟨hb, ha⟩)))
  · exact .inr ⟨hb, ha⟩
  · exact .inl (.inr ⟨hb, ha⟩)
theorem neN_symm (ra rb : Option Nat) (h : neN ra rb = true) : neN rb ra = true := by
  cases ra <;> cases rb <;> try rfl
  rename_i a b
  have := neN_ne h
  show (!(Nat.beq b a)) = true
  rw [Bool.not_eq_true', Bool.eq_false_iff]
  exact fun e => this (Nat.eq_of_beq_eq_true e).symm
theorem pairRW_symm {a b : Oper} {ra rb} (h : pairRW a b ra rb = true) : pairRW b a rb ra = true := by
  unfold pairRW at h ⊢
  simp only [Bool.and_eq_true, Bool.or_eq_true] at h ⊢
  obtain ⟨⟨ha, hb⟩ | ⟨ha, hb⟩, hn⟩ := h
  · exact ⟨.inr ⟨hb, ha⟩, neN_symm _ _ hn⟩
  · exact ⟨.inl ⟨hb, ha⟩, neN_symm _ _ hn⟩
theorem outc_gd {ops : List Oper} {base i : Nat} {o : Oper} {t h v e fz} (ho : Outc P ops base i o t h v e fz) {j w u} (hv : v = .gd j w u) : j ∈ tmpsOf ops o := by
  have h1 : ∀ g id, Outc1 P id o g t h v e fz → j ∈ tmpsOf ops o := by
    intro g id ho
    unfold Outc1 at ho
    split at ho
    · obtain ⟨_, _, _, hf, _⟩ := ho
      have := hf.2.2
      rw [hv] at this; simp [V.noGd] at this
    · have := ho.2
      rw [hv] at this; simp [V.noGd] at this
  unfold Outc at ho
  split at ho
  · exact h1 _ _ ho
  · rename_i j0 w0 hg
    obtain ⟨d, hd, ⟨_, he, _, _⟩ | ⟨b', _, ho⟩⟩ := ho
    · rw [hv] at he; cases he
    split at ho
    · rcases ho with ⟨_, ho⟩ | ⟨_, he, _, _⟩
      · exact h1 _ _ ho
      · rw [hv] at he; cases he
    · obtain ⟨c, u, _, _, _, he, _⟩ := ho
      rw [hv] at he; cases he
      exact tmps_guard hg hd
theorem putT_comm {t : List V} {d1 d2 : Option Tmp} {v1 v2 : V} (h : ∀ d, d1 = some d → d2 ≠ some d) : putT (putT t d1 v1) d2 v2 = putT (putT t d2 v2) d1 v1 := by
  cases d1 with
  | none => cases d2 <;> rfl
  | some a =>
    cases d2 with
    | none => rfl
    | some b => exact List.set_comm _ _ (fun e => h a rfl (by rw [e]))
theorem any_set {t : List V} {d : Nat} {v : V} {p : V → Bool} (h : (t.set d v).any p = false) (hd : p (t.getD d .undef) = false) : t.any p = false := by
  rw [List.any_eq_false] at h ⊢
  intro x hx
  obtain ⟨i, hi⟩ := List.mem_iff_getElem?.1 hx
  by_cases e : d = i
  · subst e
    have : t.getD d .undef = x := by simp [List.getD_eq_getElem?_getD, hi]
    rw [← this, hd]; simp
  · refine h x (List.mem_of_getElem? (i := i) ?_)
    rw [List.getElem?_set_ne e]; exact hi
theorem set_any {t : List V} {d : Nat} {v : V} {p : V → Bool} (h : t.any p = false) (hv : p v = false) : (t.set d v).any p = false := by
  rw [List.any_eq_false] at h ⊢
  intro x hx
  rcases List.mem_or_eq_of_mem_set hx with hx | rfl
  · exact h x hx
  · rw [hv]; simp
theorem noGd_tag {v : V} (h : V.noGd v = true) (d : Nat) : hasTag d v = false := by cases v <;> first | rfl | simp [V.noGd] at h
theorem swap {base i j : Nat} {t h t1 h1 t2 h2} (A : AI L base t h) {ops : List Oper} {G : List Nat} {a b : Oper} (hi : ¬ L (base + i)) (hj : ¬ L (base + j)) (hij : i ≠ j) (hap : apartB ops a b = true)
    (hp : pairOK a b = true ∨ pairRW a b (rwOf a t) (rwOf b t1) = true) (s1 : Step P ops G base i a t h t1 h1) (s2 : Step P ops G base j b t1 h1 t2 h2) :
    ∃ t1' h1', Step P ops G base j b t h t1' h1' ∧ Step P ops G base i a t1' h1' t2 h2 ∧ rwOf b t = rwOf b t1 ∧ rwOf a t1' = rwOf a t := by
  obtain ⟨ap1, ap2⟩ := apart_iff hap
  obtain ⟨g1, v1, e1, fz1, o1, rfl, rfl⟩ := step_iff.1 s1
  obtain ⟨g2, v2, e2, fz2, o2, rfl, rfl⟩ := step_iff.1 s2
  have fb : FreeOf ops b a.dst := fun d hd => (ap1 d hd).1
  have fa : FreeOf ops a b.dst := fun d hd => ap2 d hd
  have hrb : rwOf b (putT t a.dst v1) = rwOf b t := rwOf_put fb
  rw [hrb] at hp
  have EA := (outc_in A o1).e
  have o2 := (outc_m (memT_of A hi o1 EA hp)).1 ((outc_t fb).1 o2)
  have EB := (outc_in A o2).e
  have hp' : pairOK b a = true ∨ pairRW b a (rwOf b t) (rwOf a t) = true := hp.imp pairOK_symm pairRW_symm
  have o1' := (outc_t fa (u := v2)).2 ((outc_m (memT_of A hj o2 EB hp')).2 o1)
  have hc := hcomm_of A hi hj (by omega) EA EB hp
  have hdne : ∀ d, a.dst = some d → b.dst ≠ some d := fun d hd => (ap1 d hd).2
  have t1 : tagFree G t b.dst = true := by
    unfold tagFree at g2 ⊢
    cases hbd : b.dst with
    | none => rfl
    | some d =>
      rw [hbd] at g2
      simp only [Bool.and_eq_true] at g2 ⊢
      rw [getD_put (fun e => hdne d e hbd)] at g2
      refine ⟨g2.1, ?_⟩
      cases hG : G.any (Nat.beq d) with
      | false => rfl
      | true =>
        have g3 := g2.2
        rw [hG] at g3
        simp only [cond_true, Bool.not_eq_true'] at g3 ⊢
        cases had : a.dst with
        | none => rw [had] at g3; exact g3
        | some d' =>
          rw [had] at g3 g1
          unfold tagFree at g1
          simp only [Bool.and_eq_true] at g1
          exact any_set g3 (noGd_tag g1.1 d)
  have t2 : tagFree G (putT t b.dst v2) a.dst = true := by
    unfold tagFree at g1 ⊢
    cases had : a.dst with
    | none => rfl
    | some d =>
      rw [had] at g1
      simp only [Bool.and_eq_true] at g1 ⊢
      rw [getD_put (hdne d had)]
      refine ⟨g1.1, ?_⟩
      cases hG : G.any (Nat.beq d) with
      | false => rfl
      | true =>
        have g3 := g1.2
        rw [hG] at g3
        simp only [cond_true, Bool.not_eq_true'] at g3 ⊢
        cases hbd : b.dst with
        | none => exact g3
        | some d' =>
          refine set_any g3 ?_
          by_cases hg : ∃ q w u, v2 = .gd q w u
          · obtain ⟨q, w, u, hv⟩ := hg
            have hm := outc_gd o2 hv
            rw [hv]
            simp only [hasTag]
            refine Bool.eq_false_iff.2 fun e => ?_
            have := Nat.eq_of_beq_eq_true e
            subst this
            exact (ap1 q had).1 hm
          · exact noGd_tag (by cases v2 <;> first | rfl | (exact absurd ⟨_, _, _, rfl⟩ hg)) d
  refine ⟨_, _, step_iff.2 ⟨t1, v2, e2, fz2, o2, rfl, rfl⟩, step_iff.2 ⟨t2, v1, e1, fz1, o1', putT_comm hdne, hc⟩, hrb.symm, rwOf_put fa⟩
end
end Go.Vm
