import Derived.Test.YtoldachfmeghkaaGreatVmAny
namespace Go.Vm
section
variable {P : Program}
def Outc1 (P : Program) (id : Nat) (o : Oper) (g : List (Nat × Bool)) (t : List V) (h : Heap) (v : V) (e : Eff) (fz : List Nat) : Prop :=
  match isCall o with
  | some (f, args) => ∃ fid caps, evT t g f = .fn fid caps ∧ FunC P fid (V.pureL h (args.map (evT t g) ++ caps)) v ∧ e = .none ∧ fz = (bif V.flat v then [] else deepRefs h (args.map (evT t g) ++ caps))
  | none => opV P o t g h id = ⟨true, v, e, fz⟩ ∧ V.noGd v = true
def Outc (P : Program) (ops : List Oper) (base i : Nat) (o : Oper) (t : List V) (h : Heap) (v : V) (e : Eff) (fz : List Nat) : Prop :=
  match o.guard with
  | none => Outc1 P (base + i) o [] t h v e fz
  | some (j, w) => ∃ d, tmpOf ops j = some d ∧ ((evT t [] (.tmp d) = .tup [] ∧ v = .tup [] ∧ e = .none ∧ fz = []) ∨ ∃ b, evT t [] (.tmp d) = .bool b ∧
    (if loudG ops o then (b = w ∧ Outc1 P (base + i) o [(d, w)] t h v e fz) ∨ (b ≠ w ∧ v = .tup [] ∧ e = .none ∧ fz = [])
     else ∃ c u, opV P o t [(d, w)] h (base + i) = ⟨c, u, .none, []⟩ ∧ V.under base u = true ∧ (b = w → c = true) ∧ v = .gd d w u ∧ e = .none ∧ fz = []))
theorem step1_iff {id : Nat} {o : Oper} {g} {t h t' h'} : Step1 P id o g t h t' h' ↔ ∃ v e fz, Outc1 P id o g t h v e fz ∧ t' = putT t o.dst v ∧ h' = e.run id (h.freeze fz) := by
  unfold Step1 Outc1
  cases isCall o with
  | some p =>
    obtain ⟨f, args⟩ := p
    simp only
    constructor
    · rintro ⟨fid, caps, v, h1, h2, rfl, rfl⟩
      refine ⟨v, .none, _, ⟨fid, caps, h1, h2, rfl, rfl⟩, rfl, ?_⟩
      cases V.flat v with
      | true => simp [Eff.run, freeze_nil]
      | false => rfl
    · rintro ⟨v, e, fz, ⟨fid, caps, h1, h2, rfl, rfl⟩, rfl, rfl⟩
      refine ⟨fid, caps, v, h1, h2, rfl, ?_⟩
      cases V.flat v with
      | true => simp [Eff.run, freeze_nil]
      | false => rfl
  | none =>
    simp only
    constructor
    · rintro ⟨v, e, fz, h1, h2, rfl, rfl⟩; exact ⟨v, e, fz, ⟨h1, h2⟩, rfl, rfl⟩
    · rintro ⟨v, e, fz, ⟨h1, h2⟩, rfl, rfl⟩; exact ⟨v, e, fz, h1, h2, rfl, rfl⟩
theorem step_iff {ops G base i} {o : Oper} {t h t' h'} : Step P ops G base i o t h t' h' ↔ tagFree G t o.dst = true ∧ ∃ v e fz, Outc P ops base i o t h v e fz ∧ t' = putT t o.dst v ∧ h' = e.run (base + i) (h.freeze fz) := by
  unfold Step Outc
  refine and_congr_right fun _ => ?_
  cases o.guard with
  | none => exact step1_iff
  | some p =>
    obtain ⟨j, w⟩ := p
    simp only
    constructor
    · rintro ⟨d, hd, ⟨hb, h1, h2⟩ | ⟨b, hb, st⟩⟩
      · exact ⟨.tup [], .none, [], ⟨d, hd, .inl ⟨hb, rfl, rfl, rfl⟩⟩, h1, by rw [h2]; simp [Eff.run, freeze_nil]⟩
      cases hl : loudG ops o with
      | true =>
        rw [hl, if_pos rfl] at st
        rcases st with ⟨hbw, st⟩ | ⟨hne, h1, h2⟩
        · obtain ⟨v, e, fz, ho, h1, h2⟩ := step1_iff.1 st
          exact ⟨v, e, fz, ⟨d, hd, .inr ⟨b, hb, by rw [if_pos rfl]; exact .inl ⟨hbw, ho⟩⟩⟩, h1, h2⟩
        · exact ⟨.tup [], .none, [], ⟨d, hd, .inr ⟨b, hb, by rw [if_pos rfl]; exact .inr ⟨hne, rfl, rfl, rfl⟩⟩⟩, h1, by rw [h2]; simp [Eff.run, freeze_nil]⟩
      | false =>
        rw [hl, if_neg (by simp)] at st
        obtain ⟨c, v, h1, h2, h3, h4, hh⟩ := st
        exact ⟨_, .none, [], ⟨d, hd, .inr ⟨b, hb, by rw [if_neg (by simp)]; exact ⟨c, v, h1, h2, h3, rfl, rfl, rfl⟩⟩⟩, h4, by rw [hh]; simp [Eff.run, freeze_nil]⟩
    · rintro ⟨v, e, fz, ⟨d, hd, ⟨hb, rfl, rfl, rfl⟩ | ⟨b, hb, st⟩⟩, h1, h2⟩
      · exact ⟨d, hd, .inl ⟨hb, h1, by rw [h2]; simp [Eff.run, freeze_nil]⟩⟩
      refine ⟨d, hd, .inr ⟨b, hb, ?_⟩⟩
      cases hl : loudG ops o with
      | true =>
        rw [hl, if_pos rfl] at st
        rw [if_pos rfl]
        rcases st with ⟨hbw, st⟩ | ⟨hne, rfl, rfl, rfl⟩
        · exact .inl ⟨hbw, step1_iff.2 ⟨v, e, fz, st, h1, h2⟩⟩
        · exact .inr ⟨hne, h1, by rw [h2]; simp [Eff.run, freeze_nil]⟩
      | false =>
        rw [hl, if_neg (by simp)] at st
        rw [if_neg (by simp)]
        obtain ⟨c, u, g1, g2, g3, rfl, rfl, rfl⟩ := st
        exact ⟨c, u, g1, g2, g3, h1, by rw [h2]; simp [Eff.run, freeze_nil]⟩
theorem opV_t {o : Oper} {t t1 : List V} {g : List (Nat × Bool)} {h : Heap} {id : Nat} (he : ∀ x ∈ o.op.operands, ∀ g, evT t1 g x = evT t g x) : opV P o t1 g h id = opV P o t g h id := by
  obtain ⟨dst, op, type, pos, after, guard⟩ := o
  have pairs : ∀ ps : Array (Nat × Operand), (∀ x ∈ ((ps.toList.map (·.2)).toArray), ∀ g, evT t1 g x = evT t g x) →
      (ps.toList.map fun (i, x) => (i, evT t1 g x)) = (ps.toList.map fun (i, x) => (i, evT t g x)) := fun ps hp =>
    List.map_congr_left fun p hm => by
      obtain ⟨i, x⟩ := p
      simp only [hp x (by simp; exact ⟨i, by simpa using hm⟩) g]
  have lst : ∀ ps : Array Operand, (∀ x ∈ ps, ∀ g, evT t1 g x = evT t g x) → ps.toList.map (evT t1 g) = ps.toList.map (evT t g) := fun ps hp =>
    List.map_congr_left fun x hm => hp x (by simpa using hm) g
  cases op <;> simp only [Op.operands] at he <;> dsimp only [opV, opD]
  case move x =>
    have := he x (by simp) g
    split
    · rfl
    · rw [this]
  case assign x =>
    have := he x (by simp) g
    split
    · rfl
    · rw [this]
  case build t ps => rw [pairs ps he]
  case buildSlice t l ps => rw [pairs ps he]
  case makeFunc fn first caps =>
    cases fn <;> try rfl
    rename_i f
    show OR.if _ (V.fn f (caps.toList.map (evT t1 g))) = OR.if _ (V.fn f (caps.toList.map (evT t g)))
    rw [lst caps fun x hx => he x (by simp [hx])]
  case makeMap t r => cases r <;> rfl
  case next x isS =>
    have := he x (by simp) g
    cases isS with
    | false => rfl
    | true => simp only [this]
  case slice t x lo hi mx => cases lo <;> cases hi <;> cases mx <;> simp_all
  case call c =>
    obtain ⟨callee, args, ats⟩ := c
    simp only [Call.operands] at he
    cases callee with
    | builtin b =>
      simp only [Array.empty_append] at he
      cases b <;> try rfl
      · simp only
        split
        · rename_i x y hx
          have ha : args = #[x, y] := by simpa using congrArg List.toArray hx
          subst ha
          rw [he x (by simp), he y (by simp)]
        · rfl
      · simp only
        split
        · rename_i x y hx
          have ha : args = #[x, y] := by simpa using congrArg List.toArray hx
          subst ha
          rw [he x (by simp), he y (by simp)]
        · rfl
      · simp only
        split
        · rename_i x y hx
          have ha : args = #[x, y] := by simpa using congrArg List.toArray hx
          subst ha
          rw [he x (by simp), he y (by simp)]
        · rfl
      · simp only
        split
        · rename_i x hx
          have ha : args = #[x] := by simpa using congrArg List.toArray hx
          subst ha
          rw [he x (by simp)]
        · rfl
      · rw [lst args he]
      · rw [lst args he]
    | _ => rfl
  all_goals (first | rfl | (simp_all; done) | skip)
theorem load_one {h h1 : Heap} {t : TypeId} {va : V} (e : ∀ k i j, va = .ptr k i j → (h.get k = none ∧ h1.get k = none) ∨ ∃ b b1, h.get k = some b ∧ h1.get k = some b1 ∧ b1.vec = b.vec ∧ b1.sh = b.sh ∧ b1.rows = b.rows) : opLoad P t h1 va = opLoad P t h va := by
  unfold opLoad
  cases va with
  | ptr k i j =>
    rcases e k i j rfl with ⟨h1, h2⟩ | ⟨b, b1, h1, h2, h3, h4, h5⟩
    · simp only [h1, h2]
    · simp only [h1, h2, h3, h4, h5, Blk.isMap]
  | _ => rfl
theorem fieldAddr_shape {L h h1} (e : ShapeEq L h h1) {s : TypeId} {va : V} {f : Nat} (hv : InL L va) : opFieldAddr P s h1 va f = opFieldAddr P s h va f := by
  unfold opFieldAddr
  cases va with
  | ptr k i j =>
    rcases e k (hv k (by simp [V.refs])) with ⟨h1, h2⟩ | ⟨b, b1, h1, h2, h3, h4, h5⟩
    · simp only [h1, h2]
    · first | (simp only [h1, h2]; done) | (simp only [h1, h2]; rfl)
  | _ => rfl
theorem indexAddr_shape {L h h1} (e : ShapeEq L h h1) {t : TypeId} {va vi : V} (hv : InL L va) : opIndexAddr P t h1 va vi = opIndexAddr P t h va vi := by
  unfold opIndexAddr
  cases vi with
  | int k0 i =>
    cases va with
    | ptr k r j =>
      rcases e k (hv k (by simp [V.refs])) with ⟨h1, h2⟩ | ⟨b, b1, h1, h2, h3, h4, h5⟩
      · simp only [h1, h2]
      · first | (simp only [h1, h2]; done) | (simp only [h1, h2]; rfl)
    | vs k =>
      rcases e k (hv k (by simp [V.refs])) with ⟨h1, h2⟩ | ⟨b, b1, h1, h2, h3, h4, h5⟩
      · simp only [h1, h2]
      · simp only [h1, h2, h3, h4, h5]
    | sub k lo hi =>
      rcases e k (hv k (by simp [V.refs])) with ⟨h1, h2⟩ | ⟨b, b1, h1, h2, h3, h4, h5⟩
      · simp only [h1, h2]
      · simp only [h1, h2, h3, h4, h5]
    | _ => rfl
  | _ => rfl
theorem len_shape {L h h1} (e : ShapeEq L h h1) {t : TypeId} {va : V} (hv : InL L va) : opLen P t h1 va = opLen P t h va := by
  unfold opLen
  cases va with
  | vs k =>
    rcases e k (hv k (by simp [V.refs])) with ⟨h1, h2⟩ | ⟨b, b1, h1, h2, h3, h4, h5⟩
    · simp only [h1, h2]
    · simp only [h1, h2, h3, h5]
  | sub k lo hi =>
    rcases e k (hv k (by simp [V.refs])) with ⟨h1, h2⟩ | ⟨b, b1, h1, h2, h3, h4, h5⟩
    · simp only [h1, h2]
    · simp only [h1, h2, h3]
  | _ => rfl
theorem slice_core {L h h1} (e : CoreEq L h h1) {t : TypeId} {va : V} {lo hi mx : Option V} (hv : InL L va) : opSlice P t h1 va lo hi mx = opSlice P t h va lo hi mx := by
  unfold opSlice
  cases mx with
  | some m => rfl
  | none =>
    simp only
    generalize P.underlying t = u
    cases u with
    | none => cases va <;> rfl
    | some d =>
      cases d with
      | slice el =>
        cases va with
        | vs k =>
          rcases e k (hv k (by simp [V.refs])) with ⟨h1, h2⟩ | ⟨b, b1, h1, h2, h3, h4, h5⟩
          · simp only [h1, h2]
          · simp only [h1, h2, h3, h4, h5]
        | sub k l u =>
          rcases e k (hv k (by simp [V.refs])) with ⟨h1, h2⟩ | ⟨b, b1, h1, h2, h3, h4, h5⟩
          · simp only [h1, h2]
          · simp only [h1, h2, h3, h4]
        | _ => rfl
      | _ => cases va <;> rfl
theorem convert_core {L h h1} (e : CoreEq L h h1) (hh : HL L h) {s d : TypeId} {va : V} (hv : InL L va) : opConvert P s d h1 va = opConvert P s d h va := by
  unfold opConvert
  rw [pure_congr e hh va hv]
theorem buildSlice_core {L h h1} (e : CoreEq L h h1) (hh : HL L h) {t : TypeId} {len : Nat} {parts : List (Nat × V)} {id : Nat} (hv : ∀ p ∈ parts, InL L p.2) : opBuildSlice P t len parts h1 id = opBuildSlice P t len parts h id := by
  have e1 : (parts.map fun p => V.pureL h1 (V.cells p.2)) = (parts.map fun p => V.pureL h (V.cells p.2)) := List.map_congr_left fun p hp => pureL_congr e hh _ (cells_inL (hv p hp))
  have e2 : deepRefs h1 (parts.map (·.2)) = deepRefs h (parts.map (·.2)) := deep_congr e _ fun k hk => by
    obtain ⟨v, hv', hk'⟩ := refsL_mem hk
    obtain ⟨p, hp, rfl⟩ := List.mem_map.1 hv'
    exact hv p hp k hk'
  unfold opBuildSlice
  simp only [e1, e2]
theorem store_ex {L h h1} (e : ExEq L h h1) (hh : HL L h) {t : TypeId} {va vx : V} (hv : InL L va) (hx : InL L vx) : opStore P t h1 va vx = opStore P t h va vx := by
  unfold opStore
  cases va with
  | ptr k i j =>
    simp only [e k (hv k (by simp [V.refs])), pureL_congr e.core hh _ (cells_inL hx), deep_congr e.core _ (cells_inL hx)]
  | _ => rfl
theorem append_ex {L h h1} (e : ExEq L h h1) (hh : HL L h) {t tx : TypeId} {va vx : V} {id : Nat} (hv : InL L va) (hx : InL L vx) : opAppend P t tx h1 va vx id = opAppend P t tx h va vx id := by
  unfold opAppend
  simp only [pure_congr e.core hh vx hx]
  cases va with
  | vs k => simp only [e k (hv k (by simp [V.refs]))]
  | _ => rfl
theorem own_ex {L h h1} (e : ExEq L h h1) {va : V} (hv : InL L va) : ownOf h1 va = ownOf h va := by
  unfold ownOf
  cases va with
  | vs k => simp only [e k (hv k (by simp [V.refs]))]
  | sub k lo hi => simp only [e k (hv k (by simp [V.refs]))]
  | _ => rfl
theorem copy_ex {L h h1} (e : ExEq L h h1) (hh : HL L h) {t tx : TypeId} {va vx : V} (hv : InL L va) (hx : InL L vx) : opCopy P t tx h1 va vx = opCopy P t tx h va vx := by
  unfold opCopy
  simp only [pure_congr e.core hh vx hx, own_ex e hv]
theorem opV_pt {o : Oper} (hp : ptOp o = true) {t : List V} {g : List (Nat × Bool)} {h h1 : Heap} {id : Nat} : opV P o t g h1 id = opV P o t g h id := by
  obtain ⟨dst, op, type, pos, after, guard⟩ := o
  cases op <;> first | rfl | (simp [ptOp] at hp; done) | skip
  · rename_i fn first caps
    cases fn <;> rfl
  · rename_i c
    obtain ⟨callee, args, ats⟩ := c
    cases callee with
    | builtin b => cases b <;> first | rfl | (simp [ptOp] at hp; done)
    | _ => simp [ptOp] at hp
theorem opV_sr {o : Oper} (hp : srOp o = true) {L : Nat → Prop} {t : List V} {g : List (Nat × Bool)} {h h1 : Heap} {id : Nat} (e : ShapeEq L h h1) (hev : ∀ x, InL L (evT t g x)) : opV P o t g h1 id = opV P o t g h id := by
  obtain ⟨dst, op, type, pos, after, guard⟩ := o
  cases op <;> first | (simp [srOp] at hp; done) | skip
  · rename_i x
    dsimp only [opV, opD]
    have hx := hev x
    generalize evT t g x = v at hx
    cases v with
    | ptr k i j =>
      rcases e k (hx k (by simp [V.refs])) with ⟨h1, h2⟩ | ⟨b, b1, h1, h2, _⟩
      · simp only [h1, h2]
      · simp only [h1, h2]; rfl
    | _ => rfl
  · exact fieldAddr_shape e (hev _)
  · exact indexAddr_shape e (hev _)
  · rename_i c
    obtain ⟨callee, args, ats⟩ := c
    cases callee with
    | builtin b =>
      cases b <;> first | (simp [srOp] at hp; done) | skip
      dsimp only [opV, opD]
      split
      · split
        · exact len_shape e (hev _)
        · rfl
      · rfl
    | _ => simp [srOp] at hp
theorem opV_core {o : Oper} (hp : quietOp o = true) {L : Nat → Prop} {t : List V} {g : List (Nat × Bool)} {h h1 : Heap} {id : Nat} (e : CoreEq L h h1) (hh : HL L h) (hev : ∀ x, InL L (evT t g x)) : opV P o t g h1 id = opV P o t g h id := by
  by_cases hpt : ptOp o = true
  · exact opV_pt hpt
  by_cases hsr : srOp o = true
  · exact opV_sr hsr e.shape hev
  obtain ⟨dst, op, type, pos, after, guard⟩ := o
  cases op <;> first | rfl | (simp [ptOp] at hpt; done) | (simp [srOp] at hsr; done) | (simp [quietOp] at hp; done) | skip
  · rename_i ty len parts
    refine buildSlice_core e hh fun p hpm => ?_
    obtain ⟨q, _, rfl⟩ := List.mem_map.1 hpm
    exact hev _
  · rename_i ty x
    exact load_one fun k i j hk => by
      have hx := hev x
      rw [hk] at hx
      exact e k (hx k (by simp [V.refs]))
  · exact convert_core e hh (hev _)
  · exact slice_core e (hev _)
  · rename_i c
    obtain ⟨callee, args, ats⟩ := c
    cases callee with
    | builtin b => cases b <;> first | rfl | (simp [ptOp] at hpt; done) | (simp [srOp] at hsr; done) | (simp [quietOp] at hp; done)
    | _ => rfl
theorem opV_ef {o : Oper} (hp : (stOp o || cpOp o || apOp o) = true) {L : Nat → Prop} {t : List V} {g : List (Nat × Bool)} {h h1 : Heap} {id : Nat} (e : ExEq L h h1) (hh : HL L h) (hev : ∀ x, InL L (evT t g x)) : opV P o t g h1 id = opV P o t g h id := by
  obtain ⟨dst, op, type, pos, after, guard⟩ := o
  cases op <;> first | (simp [stOp, cpOp, apOp] at hp; done) | skip
  · exact store_ex e hh (hev _) (inL_nils (hev _))
  · rename_i c
    obtain ⟨callee, args, ats⟩ := c
    cases callee with
    | builtin b =>
      cases b <;> first | (simp [stOp, cpOp, apOp] at hp; done) | skip
      · dsimp only [opV, opD]
        split
        · split
          · exact append_ex e hh (hev _) (hev _)
          · rfl
        · rfl
      · dsimp only [opV, opD]
        split
        · split
          · exact copy_ex e hh (hev _) (hev _)
          · rfl
        · rfl
    | _ => simp [stOp, cpOp, apOp] at hp
theorem ins_ins {k k' : Nat} (hne : k ≠ k') (b b' : Blk) : ∀ (h : Heap), (h.ins k b).ins k' b' = (h.ins k' b').ins k b := by
  intro h
  induction h with
  | nil =>
    simp only [Heap.ins]
    by_cases h1 : Nat.blt k k' = true
    · have h2 : k < k' := by simpa [Nat.blt_eq] using h1
      have h3 : Nat.blt k' k = false := Bool.eq_false_iff.2 fun h => by have : k' < k := by simpa [Nat.blt_eq] using h
                                                                        omega
      have h4 : Nat.beq k' k = false := Bool.eq_false_iff.2 fun h => hne (Nat.eq_of_beq_eq_true h).symm
      simp [h1, h3, h4]
    · have h1' : Nat.blt k k' = false := Bool.eq_false_iff.2 h1
      have h2 : k' < k := by
        have : ¬ k < k' := fun h => h1 (by simpa [Nat.blt_eq] using h)
        omega
      have h3 : Nat.blt k' k = true := by simpa [Nat.blt_eq] using h2
      have h4 : Nat.beq k k' = false := Bool.eq_false_iff.2 fun h => hne (Nat.eq_of_beq_eq_true h)
      simp [h1', h3, h4]
  | cons p r ih =>
    obtain ⟨q, c⟩ := p
    have tri : ∀ a b : Nat, (Nat.blt a b = true ∧ Nat.beq a b = false ∧ a < b) ∨ (Nat.blt a b = false ∧ Nat.beq a b = true ∧ a = b) ∨ (Nat.blt a b = false ∧ Nat.beq a b = false ∧ b < a) := by
      intro a b
      rcases Nat.lt_trichotomy a b with h | h | h
      · exact .inl ⟨by simpa [Nat.blt_eq] using h, Bool.eq_false_iff.2 fun e => by have := Nat.eq_of_beq_eq_true e; omega, h⟩
      · exact .inr (.inl ⟨Bool.eq_false_iff.2 fun e => by have : a < b := by simpa [Nat.blt_eq] using e
                                                          omega, by subst h; simp, h⟩)
      · exact .inr (.inr ⟨Bool.eq_false_iff.2 fun e => by have : a < b := by simpa [Nat.blt_eq] using e
                                                          omega, Bool.eq_false_iff.2 fun e => by have := Nat.eq_of_beq_eq_true e; omega, h⟩)
    rcases tri q k with ⟨a1, a2, a3⟩ | ⟨a1, a2, a3⟩ | ⟨a1, a2, a3⟩ <;> rcases tri q k' with ⟨b1, b2, b3⟩ | ⟨b1, b2, b3⟩ | ⟨b1, b2, b3⟩ <;>
      rcases tri k k' with ⟨c1, c2, c3⟩ | ⟨c1, c2, c3⟩ | ⟨c1, c2, c3⟩ <;> rcases tri k' k with ⟨d1, d2, d3⟩ | ⟨d1, d2, d3⟩ | ⟨d1, d2, d3⟩ <;>
      first | (exfalso; omega) | (simp [Heap.ins, a1, a2, b1, b2, c1, c2, d1, d2, ih]; done)
theorem freeze_freeze (a b : List Nat) : ∀ (h : Heap), (h.freeze a).freeze b = (h.freeze b).freeze a
  | [] => rfl
  | (i, c) :: r => by
    simp only [Heap.freeze, freeze_freeze a b r]
    cases a.any (Nat.beq i) <;> cases b.any (Nat.beq i) <;> rfl
theorem freeze_ins {k : Nat} {fz : List Nat} (hk : k ∉ fz) (b : Blk) : ∀ (h : Heap), (h.ins k b).freeze fz = (h.freeze fz).ins k b
  | [] => by
    have : fz.any (Nat.beq k) = false := by
      rw [List.any_eq_false]; intro q hq e; exact hk (Nat.eq_of_beq_eq_true e ▸ hq)
    simp [Heap.ins, Heap.freeze, this]
  | (i, c) :: r => by
    have hkk : fz.any (Nat.beq k) = false := by
      rw [List.any_eq_false]; intro q hq e; exact hk (Nat.eq_of_beq_eq_true e ▸ hq)
    simp only [Heap.ins, Heap.freeze]
    cases Nat.blt i k with
    | true => simp only [cond_true, Heap.freeze, freeze_ins hk b r]
    | false =>
      cases hb : Nat.beq i k with
      | true => simp only [cond_false, cond_true, Heap.freeze, hkk]
      | false => simp only [cond_false, Heap.freeze, hkk]
theorem sorted_cons {i : Nat} {c : Blk} {r : Heap} : sortedB ((i, c) :: r) = true ↔ (∀ p ∈ r, i < p.1) ∧ sortedB r = true := by
  simp only [sortedB, Bool.and_eq_true, List.all_eq_true, Nat.blt_eq]
theorem mem_del {k : Nat} {p : Nat × Blk} : ∀ {h : Heap}, p ∈ h.del k → p ∈ h
  | (i, c) :: r, hp => by
    simp only [Heap.del] at hp
    cases hb : Nat.beq i k with
    | true => rw [hb] at hp; exact List.mem_cons_of_mem _ (mem_del hp)
    | false =>
      rw [hb] at hp
      rcases List.mem_cons.1 hp with rfl | hp
      · simp
      · exact List.mem_cons_of_mem _ (mem_del hp)
theorem ins_front {k : Nat} (b : Blk) : ∀ {h : Heap}, (∀ p ∈ h, k < p.1) → h.ins k b = (k, b) :: h
  | [], _ => rfl
  | (i, c) :: r, hp => by
    have := hp (i, c) (by simp)
    have h1 : Nat.blt i k = false := Bool.eq_false_iff.2 fun e => by
      have h2 : i < k := by simpa [Nat.blt_eq] using e
      have h3 : k < i := this
      omega
    have h2 : Nat.beq i k = false := Bool.eq_false_iff.2 fun e => by
      have h2 := Nat.eq_of_beq_eq_true e
      have h3 : k < i := this
      omega
    simp [Heap.ins, h1, h2]
theorem del_ins {k k' : Nat} (hne : k ≠ k') (b : Blk) : ∀ (h : Heap), sortedB h = true → (h.ins k' b).del k = (h.del k).ins k' b
  | [], _ => by
    have : Nat.beq k' k = false := Bool.eq_false_iff.2 fun e => hne (Nat.eq_of_beq_eq_true e).symm
    simp [Heap.ins, Heap.del, this]
  | (q, c) :: r, hs => by
    rw [sorted_cons] at hs
    have hkk : Nat.beq k' k = false := Bool.eq_false_iff.2 fun e => hne (Nat.eq_of_beq_eq_true e).symm
    have ih := del_ins hne b r hs.2
    cases h1 : Nat.blt q k' with
    | true =>
      cases h2 : Nat.beq q k with
      | true => simp only [Heap.ins, Heap.del, h1, h2, cond_true]; exact ih
      | false => simp only [Heap.ins, Heap.del, h1, h2, cond_true, cond_false, ih]
    | false =>
      cases h3 : Nat.beq q k' with
      | true =>
        have e := Nat.eq_of_beq_eq_true h3
        subst e
        simp only [Heap.ins, Heap.del, h1, hkk, h3, cond_true, cond_false]
      | false =>
        have hlt : k' < q := by
          have a1 : ¬ q < k' := fun h => by rw [Bool.eq_false_iff] at h1; exact h1 (by simpa [Nat.blt_eq] using h)
          have a2 : q ≠ k' := fun h => by rw [Bool.eq_false_iff] at h3; exact h3 (by subst h; simp)
          omega
        cases h2 : Nat.beq q k with
        | true =>
          simp only [Heap.ins, Heap.del, h1, h2, h3, hkk, cond_true, cond_false]
          rw [ins_front b fun p hp => Nat.lt_trans hlt (hs.1 p (mem_del hp))]
        | false => simp only [Heap.ins, Heap.del, h1, h2, h3, hkk, cond_false]
theorem sorted_freeze (fz : List Nat) : ∀ {h : Heap}, sortedB h = true → sortedB (h.freeze fz) = true
  | [], _ => rfl
  | (i, c) :: r, hs => by
    rw [sorted_cons] at hs
    simp only [Heap.freeze]
    rw [sorted_cons]
    refine ⟨fun p hp => ?_, sorted_freeze fz hs.2⟩
    have : ∀ (h : Heap) (p : Nat × Blk), p ∈ h.freeze fz → ∃ q ∈ h, q.1 = p.1 := by
      intro h
      induction h with
      | nil => intro p hp; cases hp
      | cons x l ih =>
        intro p hp
        obtain ⟨j, d⟩ := x
        simp only [Heap.freeze] at hp
        rcases List.mem_cons.1 hp with rfl | hp
        · exact ⟨(j, d), by simp, rfl⟩
        · obtain ⟨q, hq, e⟩ := ih p hp
          exact ⟨q, List.mem_cons_of_mem _ hq, e⟩
    obtain ⟨q, hq, e⟩ := this r p hp
    rw [← e]; exact hs.1 q hq
theorem sorted_del (k : Nat) : ∀ {h : Heap}, sortedB h = true → sortedB (h.del k) = true
  | [], _ => rfl
  | (i, c) :: r, hs => by
    rw [sorted_cons] at hs
    simp only [Heap.del]
    cases Nat.beq i k with
    | true => exact sorted_del k hs.2
    | false =>
      simp only [cond_false]
      rw [sorted_cons]
      exact ⟨fun p hp => hs.1 p (mem_del hp), sorted_del k hs.2⟩
theorem mem_ins {k : Nat} {b : Blk} {p : Nat × Blk} : ∀ {h : Heap}, p ∈ h.ins k b → p.1 = k ∨ p ∈ h
  | [], hp => by simp [Heap.ins] at hp; exact .inl (by rw [hp])
  | (i, c) :: r, hp => by
    simp only [Heap.ins] at hp
    cases h1 : Nat.blt i k with
    | true =>
      rw [h1] at hp
      rcases List.mem_cons.1 hp with rfl | hp
      · exact .inr (by simp)
      · rcases mem_ins hp with h | h
        · exact .inl h
        · exact .inr (List.mem_cons_of_mem _ h)
    | false =>
      rw [h1] at hp
      cases h2 : Nat.beq i k with
      | true =>
        rw [h2] at hp
        rcases List.mem_cons.1 hp with rfl | hp
        · exact .inl rfl
        · exact .inr (List.mem_cons_of_mem _ hp)
      | false =>
        rw [h2] at hp
        rcases List.mem_cons.1 hp with rfl | hp
        · exact .inl rfl
        · exact .inr hp
theorem sorted_ins (k : Nat) (b : Blk) : ∀ {h : Heap}, sortedB h = true → sortedB (h.ins k b) = true
  | [], _ => rfl
  | (i, c) :: r, hs => by
    rw [sorted_cons] at hs
    simp only [Heap.ins]
    cases h1 : Nat.blt i k with
    | true =>
      simp only [cond_true]
      rw [sorted_cons]
      refine ⟨fun p hp => ?_, sorted_ins k b hs.2⟩
      rcases mem_ins hp with h | h
      · rw [h]; simpa [Nat.blt_eq] using h1
      · exact hs.1 p h
    | false =>
      cases h2 : Nat.beq i k with
      | true =>
        have e := Nat.eq_of_beq_eq_true h2
        subst e
        simp only [cond_false, cond_true]
        rw [sorted_cons]; exact hs
      | false =>
        have hlt : k < i := by
          have a1 : ¬ i < k := fun h => by rw [Bool.eq_false_iff] at h1; exact h1 (by simpa [Nat.blt_eq] using h)
          have a2 : i ≠ k := fun h => by rw [Bool.eq_false_iff] at h2; exact h2 (by subst h; simp)
          omega
        simp only [cond_false]
        rw [sorted_cons, sorted_cons]
        refine ⟨fun p hp => ?_, hs⟩
        rcases List.mem_cons.1 hp with rfl | hp
        · exact hlt
        · exact Nat.lt_trans hlt (hs.1 p hp)
theorem sorted_run (e : Eff) (id : Nat) {h : Heap} (hs : sortedB h = true) : sortedB (e.run id h) = true := by
  cases e with
  | none => exact hs
  | new b => exact sorted_ins _ _ hs
  | put k b => exact sorted_ins _ _ hs
  | app k b => exact sorted_ins _ _ (sorted_del _ hs)
end
end Go.Vm
