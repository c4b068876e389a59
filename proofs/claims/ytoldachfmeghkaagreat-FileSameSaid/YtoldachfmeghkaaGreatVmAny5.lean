import Derived.Test.YtoldachfmeghkaaGreatVmAny4
set_option linter.unusedVariables false
namespace Go.Vm
section
variable {P : Program} {L : Nat → Prop}
structure AI (L : Nat → Prop) (base : Nat) (t : List V) (h : Heap) : Prop where
  tv : ∀ u ∈ t, InL L u
  gd : ∀ j q v, V.gd j q v ∈ t → V.under base v = true
  hh : HL L h
  hl : ∀ k b, h.get k = some b → L k
  srt : sortedB h = true
  lb : ∀ k, k < base → L k
theorem AI.of {n0 A0 G base w t h a E} (R : RS n0 A0 L G base w t h a E) (hs : sortedB h = true) (hb : ∀ k, k < base → L k) : AI L base t h := by
  refine ⟨fun u hu => ?_, fun j q v hm => ?_, R.s.hL, R.s.hl, hs, hb⟩
  · obtain ⟨i, hi⟩ := List.mem_iff_getElem?.1 hu
    by_cases hg : ∃ j q v, u = .gd j q v
    · obtain ⟨j, q, v, rfl⟩ := hg; exact inL_nil rfl
    · have := evT_inL R hb [] (.tmp i)
      simp only [evT] at this
      have e : t.getD i .undef = u := by simp [List.getD_eq_getElem?_getD, hi]
      rw [e] at this
      split at this
      · rename_i hgd; exact absurd ⟨_, _, _, rfl⟩ hg
      · exact this
  · obtain ⟨i, hi⟩ := List.mem_iff_getElem?.1 hm
    exact (R.tag i j q v hi).2
theorem AI.ev {base t h} (A : AI L base t h) (g : List (Nat × Bool)) (x : Operand) : InL L (evT t g x) := by
  cases x with
  | tmp d =>
    simp only [evT]
    by_cases hd : d < t.length
    · have h1 : t.getD d .undef ∈ t := List.mem_of_getElem? (getD_of (d := V.undef) hd)
      split
      · rename_i j q v hgd
        cases g.any (fun p => Nat.beq j p.1 && (q == p.2)) with
        | false => exact inL_undef
        | true =>
          simp only [cond_true]
          rw [hgd] at h1
          exact fun k hk => A.lb k (under_refs v (A.gd j q v h1) k hk)
      · exact A.tv _ h1
    · have : t.getD d .undef = .undef := by simp [List.getD_eq_getElem?_getD, List.getElem?_eq_none (Nat.le_of_not_lt hd)]
      rw [this]; exact inL_undef
  | const v =>
    apply inL_nil
    exact ofValue_refs v
  | global g => exact inL_undef
  | func f => exact inL_nil rfl
theorem isCall_quiet {o : Oper} {f args} (h : isCall o = some (f, args)) : quietOp o = true ∧ ptOp o = false ∧ srOp o = false ∧ stOp o = false ∧ apOp o = false ∧ ldOp o = false ∧ cpOp o = false := by
  obtain ⟨c, h1, h2, _⟩ := isCall_eq h
  simp [quietOp, ptOp, srOp, stOp, apOp, ldOp, cpOp, h1, h2]
structure OutIn (L : Nat → Prop) (base id : Nat) (o : Oper) (h : Heap) (v : V) (e : Eff) (fz : List Nat) : Prop where
  r : ResIn L id v e
  g : ∀ j q u, v = .gd j q u → V.under base u = true
  e : EffOK L o h e fz
theorem ResIn.none {id : Nat} {v : V} (h : InL L v) : ResIn L id v .none := ⟨fun k hk => .inl (h k hk), (fun b hb => by cases hb), fun k b e => by cases e⟩
theorem args_in {t : List V} {g : List (Nat × Bool)} (hev : ∀ x, InL L (evT t g x)) {f : Operand} {args : List Operand} {fid : Nat} {caps : List V} (hf : evT t g f = .fn fid caps) : ∀ k ∈ V.refsL (args.map (evT t g) ++ caps), L k := by
  refine refsL_in fun v hv => ?_
  rcases List.mem_append.1 hv with hv | hv
  · obtain ⟨x, _, rfl⟩ := List.mem_map.1 hv; exact hev x
  · have := hev f
    rw [hf] at this
    exact in_refsL (fun k hk => this k (by rw [V.refs]; exact hk)) v hv
theorem outc1_in {base : Nat} {t h} (A : AI L base t h) {id : Nat} {o : Oper} {g v e fz} (ho : Outc1 P id o g t h v e fz) : OutIn L base id o h v e fz := by
  unfold Outc1 at ho
  split at ho
  · rename_i f args hc
    obtain ⟨fid, caps, hf, hfun, rfl, rfl⟩ := ho
    have hv := hfun.2
    obtain ⟨q1, q2, q3, q4, q5, q6, q7⟩ := isCall_quiet hc
    have hfz : ∀ k ∈ (bif V.flat v then [] else deepRefs h (args.map (evT t g) ++ caps)), L k := by
      cases V.flat v with
      | true => intro k hk; cases hk
      | false => exact deep_inL A.hh _ (args_in (A.ev g) hf)
    refine ⟨.none (inL_nil hv.1), fun j q u e => ?_, ⟨hfz, fun _ => .inl rfl, fun h => ?_, fun h => ?_, fun h => ?_, fun h => ?_⟩⟩
    · subst e; simp [V.noGd] at hv
    all_goals simp_all
  · exact ⟨resIn A.hh (A.ev g) ho.1, fun j q u e => (by rw [e] at ho; simp [V.noGd] at ho), effOK A.hh (A.ev g) ho.1⟩
theorem outc_in {base i : Nat} {t h} (A : AI L base t h) {ops : List Oper} {o : Oper} {v e fz} (ho : Outc P ops base i o t h v e fz) : OutIn L base (base + i) o h v e fz := by
  unfold Outc at ho
  split at ho
  · exact outc1_in A ho
  · rename_i j w hg
    obtain ⟨d, hd, ⟨_, rfl, rfl, rfl⟩ | ⟨b, hb, ho⟩⟩ := ho
    · exact ⟨.none (inL_nil rfl), (fun j q u e => by cases e), .none⟩
    cases hl : loudG ops o with
    | true =>
      rw [hl, if_pos rfl] at ho
      rcases ho with ⟨_, ho⟩ | ⟨_, rfl, rfl, rfl⟩
      · exact outc1_in A ho
      · exact ⟨.none (inL_nil rfl), (fun j q u e => by cases e), .none⟩
    | false =>
      rw [hl, if_neg (by simp)] at ho
      obtain ⟨c, u, h1, h2, h3, rfl, rfl, rfl⟩ := ho
      exact ⟨.none (inL_nil rfl), (fun j q u' e => by cases e; exact h2), .none⟩
theorem mem_put {t : List V} {dst : Option Tmp} {v u : V} (h : u ∈ putT t dst v) : u ∈ t ∨ u = v := by
  cases dst with
  | none => exact .inl h
  | some d => exact List.mem_or_eq_of_mem_set h
theorem run_get {id k : Nat} {e : Eff} {h : Heap} {b : Blk} (hb : (e.run id h).get k = some b) : h.get k = some b ∨ (e.blk = some b ∧ (k = id ∨ ∃ b', e = .put k b')) := by
  cases e with
  | none => exact .inl hb
  | new b' =>
    rw [Eff.run, Heap.get_ins] at hb
    split at hb
    · exact .inr ⟨hb, .inl ‹_›⟩
    · exact .inl hb
  | put k' b' =>
    rw [Eff.run, Heap.get_ins] at hb
    split at hb
    · rename_i e; subst e; exact .inr ⟨hb, .inr ⟨_, rfl⟩⟩
    · exact .inl hb
  | app k' b' =>
    rw [Eff.run, Heap.get_ins] at hb
    split at hb
    · exact .inr ⟨hb, .inl ‹_›⟩
    · rw [Heap.get_del] at hb
      split at hb
      · cases hb
      · exact .inl hb
theorem AI.next {base id : Nat} {t h} (A : AI L base t h) {o : Oper} {v e fz} (O : OutIn L base id o h v e fz) : AI (fun k => L k ∨ k = id) base (putT t o.dst v) (e.run id (h.freeze fz)) := by
  refine ⟨fun u hu => ?_, fun j q u hu => ?_, fun k b hb hv row hrow u hu k' hk' => ?_, fun k b hb => ?_, sorted_run _ _ (sorted_freeze _ A.srt), fun k hk => .inl (A.lb k hk)⟩
  · rcases mem_put hu with hu | rfl
    · exact fun k hk => .inl (A.tv u hu k hk)
    · exact O.r.v
  · rcases mem_put hu with hu | hu
    · exact A.gd j q u hu
    · exact O.g j q u hu.symm
  · rcases run_get hb with hb | ⟨hb, _⟩
    · obtain ⟨b0, h0, e1, e2, e3, _⟩ := freeze_get hb
      exact .inl (A.hh k b0 h0 (by rw [← e3]; exact hv) row (by rw [← e1]; exact hrow) u hu k' hk')
    · exact .inl (O.r.b b hb hv row hrow u hu k' hk')
  · rcases run_get hb with hb | ⟨hb, hk | ⟨b', hk⟩⟩
    · obtain ⟨b0, h0, _⟩ := freeze_get hb
      exact .inl (A.hl k b0 h0)
    · exact .inr hk
    · exact .inl (O.r.p k b' hk)
theorem getD_put {t : List V} {dst : Option Tmp} {v : V} {d : Nat} (h : dst ≠ some d) : (putT t dst v).getD d .undef = t.getD d .undef := by
  cases dst with
  | none => rfl
  | some e =>
    have : e ≠ d := fun he => h (by rw [he])
    simp only [putT, List.getD_eq_getElem?_getD, List.getElem?_set_ne this]
theorem evT_put {t : List V} {dst : Option Tmp} {v : V} {g : List (Nat × Bool)} {x : Operand} (h : ∀ d, x = .tmp d → dst ≠ some d) : evT (putT t dst v) g x = evT t g x := by
  cases x with
  | tmp d => simp only [evT, getD_put (h d rfl)]
  | _ => rfl
theorem apart_iff {ops : List Oper} {a b : Oper} (h : apartB ops a b = true) : (∀ d, a.dst = some d → d ∉ tmpsOf ops b ∧ b.dst ≠ some d) ∧ (∀ d, b.dst = some d → d ∉ tmpsOf ops a) := by
  unfold apartB at h
  rw [Bool.and_eq_true] at h
  obtain ⟨h1, h2⟩ := h
  refine ⟨fun d hd => ?_, fun d hd => ?_⟩
  · rw [hd] at h1
    simp only [Bool.and_eq_true, Bool.not_eq_true', List.any_eq_false] at h1
    refine ⟨fun hm => h1.1 d hm (by simp), fun e => ?_⟩
    rw [e] at h1; simp at h1
  · rw [hd] at h2
    simp only [Bool.not_eq_true', List.any_eq_false] at h2
    exact fun hm => h2 d hm (by simp)
theorem tmps_op {ops : List Oper} {o : Oper} {d : Nat} (h : .tmp d ∈ o.op.operands) : d ∈ tmpsOf ops o := by
  unfold tmpsOf
  exact List.mem_append_left _ (List.mem_filterMap.2 ⟨.tmp d, by simpa using h, rfl⟩)
theorem tmps_guard {ops : List Oper} {o : Oper} {j d : Nat} {w : Bool} (h : o.guard = some (j, w)) (hd : tmpOf ops j = some d) : d ∈ tmpsOf ops o := by
  unfold tmpsOf
  refine List.mem_append_right _ ?_
  rw [h]; simp [hd]
def FreeOf (ops : List Oper) (o : Oper) (dst : Option Tmp) : Prop := ∀ d, dst = some d → d ∉ tmpsOf ops o
theorem FreeOf.ev {ops : List Oper} {o : Oper} {dst : Option Tmp} (f : FreeOf ops o dst) {t : List V} {v : V} {x : Operand} (hx : x ∈ o.op.operands) (g : List (Nat × Bool)) : evT (putT t dst v) g x = evT t g x :=
  evT_put fun d e hd => f d hd (tmps_op (e ▸ hx))
theorem outc1_t {ops : List Oper} {o : Oper} {dst : Option Tmp} (f : FreeOf ops o dst) {t : List V} {u : V} {id : Nat} {g h v e fz} : Outc1 P id o g (putT t dst u) h v e fz ↔ Outc1 P id o g t h v e fz := by
  unfold Outc1
  cases hc : isCall o with
  | some p =>
    obtain ⟨x, args⟩ := p
    obtain ⟨c, h1, h2, h3⟩ := isCall_eq hc
    have hx : evT (putT t dst u) g x = evT t g x := f.ev (by rw [h1]; simp [Op.operands, Call.operands, h2]) g
    have ha : args.map (evT (putT t dst u) g) = args.map (evT t g) := List.map_congr_left fun y hy => f.ev (by rw [h1]; subst h3; simp [Op.operands, Call.operands, h2]; exact .inr (by simpa using hy)) g
    simp only [hx, ha]
  | none =>
    simp only
    rw [opV_t fun x hx g => f.ev hx g]
theorem outc_t {ops : List Oper} {o : Oper} {dst : Option Tmp} (f : FreeOf ops o dst) {t : List V} {u : V} {base i : Nat} {h v e fz} : Outc P ops base i o (putT t dst u) h v e fz ↔ Outc P ops base i o t h v e fz := by
  unfold Outc
  cases hg : o.guard with
  | none => exact outc1_t f
  | some p =>
    obtain ⟨j, w⟩ := p
    simp only
    refine exists_congr fun d => and_congr_right fun hd => ?_
    have he : evT (putT t dst u) [] (.tmp d) = evT t [] (.tmp d) := evT_put fun d' e hd' => by
      cases e
      exact f d hd' (tmps_guard hg hd)
    rw [he]
    refine or_congr Iff.rfl (exists_congr fun b => and_congr_right fun _ => ?_)
    rw [opV_t fun x hx g => f.ev hx g]
    cases loudG ops o with
    | true =>
      rw [if_pos rfl, if_pos rfl]
      exact or_congr (and_congr_right fun _ => outc1_t f) Iff.rfl
    | false => exact Iff.rfl
theorem rwOf_put {ops : List Oper} {o : Oper} {dst : Option Tmp} (f : FreeOf ops o dst) {t : List V} {u : V} : rwOf o (putT t dst u) = rwOf o t := by
  unfold rwOf
  split
  · rename_i d hop
    rw [getD_put fun e => f d e (tmps_op (by rw [hop]; simp [Op.operands]))]
  · rename_i d y hop
    rw [getD_put fun e => f d e (tmps_op (by rw [hop]; simp [Op.operands]))]
  · rfl
structure MemT (P : Program) (o : Oper) (t : List V) (h h1 : Heap) : Prop where
  v : ∀ g id, opV P o t g h1 id = opV P o t g h id
  c : ∀ f args, isCall o = some (f, args) → ∀ g fid caps, evT t g f = .fn fid caps → V.pureL h1 (args.map (evT t g) ++ caps) = V.pureL h (args.map (evT t g) ++ caps) ∧ deepRefs h1 (args.map (evT t g) ++ caps) = deepRefs h (args.map (evT t g) ++ caps)
theorem outc1_m {o : Oper} {t h h1} (m : MemT P o t h h1) {id : Nat} {g v e fz} : Outc1 P id o g t h1 v e fz ↔ Outc1 P id o g t h v e fz := by
  unfold Outc1
  have hv := m.v
  have hm := m.c
  cases hc : isCall o with
  | some p =>
    obtain ⟨x, args⟩ := p
    simp only
    refine exists_congr fun fid => exists_congr fun caps => and_congr_right fun hf => ?_
    obtain ⟨e1, e2⟩ := hm x args hc g fid caps hf
    rw [e1, e2]
  | none => simp only [hv]
theorem outc_m {ops : List Oper} {o : Oper} {t h h1} (m : MemT P o t h h1) {base i : Nat} {v e fz} : Outc P ops base i o t h1 v e fz ↔ Outc P ops base i o t h v e fz := by
  unfold Outc
  cases o.guard with
  | none => exact outc1_m m
  | some p =>
    obtain ⟨j, w⟩ := p
    simp only
    refine exists_congr fun d => and_congr_right fun hd => or_congr Iff.rfl (exists_congr fun b => and_congr_right fun _ => ?_)
    rw [m.v]
    cases loudG ops o with
    | true =>
      rw [if_pos rfl, if_pos rfl]
      exact or_congr (and_congr_right fun _ => outc1_m m) Iff.rfl
    | false => exact Iff.rfl
theorem MemT.same {o : Oper} {t h} : MemT P o t h h := ⟨fun _ _ => rfl, fun _ _ _ _ _ _ _ => ⟨rfl, rfl⟩⟩
theorem MemT.quiet {base : Nat} {t h h1} (A : AI L base t h) {o : Oper} (hq : quietOp o = true) (e : CoreEq L h h1) : MemT P o t h h1 :=
  ⟨fun g id => opV_core hq e A.hh (A.ev g), fun f args hc g fid caps hf => ⟨pureL_congr e A.hh _ (args_in (A.ev g) hf), deep_congr e _ (args_in (A.ev g) hf)⟩⟩
theorem MemT.of {o : Oper} (hc : isCall o = none) {t h h1} (hv : ∀ g id, opV P o t g h1 id = opV P o t g h id) : MemT P o t h h1 := ⟨hv, fun f args h => by rw [hc] at h; cases h⟩
theorem noCall {o : Oper} (h : ptOp o = true ∨ srOp o = true ∨ stOp o = true ∨ apOp o = true ∨ ldOp o = true ∨ cpOp o = true) : isCall o = none := by
  cases hc : isCall o with
  | none => rfl
  | some p =>
    obtain ⟨q1, q2, q3, q4, q5, q6, q7⟩ := isCall_quiet (f := p.1) (args := p.2) hc
    simp_all
end
end Go.Vm
