import Derived.Test.YtoldachfmeghkaaGreatVmDisp
import Derived.Orders
namespace Go.Vm
def Entered (P : Program) (f : Nat) : Prop := ∃ fn c, P.funcs[f]? = some fn ∧ fn.body = some c ∧ (fn.name == "runtime.NumGoroutine") = false
def FunOK (P : Program) (f : Nat) (args : List V) (r : V) : Prop := Entered P f ∧ ∀ (w : World) (A : Nat → Prop) (vals : Array Value), (∀ b, A b → b < w.heap.size) → args.length = vals.size →
  (∀ (i : Nat) (v : V) (x : Value), args[i]? = some v → vals[i]? = some x → DRel w A v x) →
  Calls P f vals w fun e w' => ∃ x, e = .returned x ∧ Below w.heap.size w w' ∧ DRel w' (fun b => A b ∨ (w.heap.size ≤ b ∧ b < w'.heap.size)) r x
def FunC (P : Program) (f : Nat) (args : List V) (r : V) : Prop := FunOK P f args r ∧ V.refs r = [] ∧ V.noGd r = true
def SortOK (P : Program) (sf g : Nat) (caps : List V) (c : Nat) (dom : List Int → Bool) (cf : List Int → List Int → Int) : Prop :=
  Entered P sf ∧ (∀ (w : World) (A : Nat → Prop) (cb : Array Value), (∀ b, A b → b < w.heap.size) → caps.length = cb.size →
    (∀ (i : Nat) (v : V) (x : Value), caps[i]? = some v → cb[i]? = some x → DRel w A v x) →
    Calls P sf #[.slice none 0 0, .func (.func g) #[] cb] w fun e w' => e = .returned (.tuple #[]) ∧ Below w.heap.size w w') ∧
  ∀ (w : World) (A : Nat → Prop) (cb : Array Value) (blk cap : Nat) (cs : Array Value) (T : TypeId) (d : List (List Int)), (∀ b, A b → b < w.heap.size ∧ b ≠ blk) → caps.length = cb.size →
    (∀ (i : Nat) (v : V) (x : Value), caps[i]? = some v → cb[i]? = some x → DRel w A v x) → w.heap[blk]? = some (.cells cs T (0, 0)) → (∀ x ∈ d, x.length = c) → (∀ x ∈ d, dom x = true) →
    (∀ (i j : Nat) (x : List Int) (n : Int), d[i]? = some x → x[j]? = some n → cs[i * c + j]? = some (.int .i64 n)) → d.length < 4611686018427387904 →
    Calls P sf #[.slice (some ⟨blk, 0, none⟩) d.length cap, .func (.func g) #[] cb] w fun e w' => e = .returned (.tuple #[]) ∧ ∃ (d' : List (List Int)) (cs' : Array Value), d'.Perm d ∧ (d'.Pairwise fun p q => ¬ cf q p < 0) ∧
      (∃ w1, w1.os = w.os ∧ w1.tape = w.tape ∧ w1.output = w.output ∧ w.drawn ≤ w1.drawn ∧ w1.heap.size = w.heap.size ∧ (∀ q, q ≠ blk → w1.heap[q]? = w.heap[q]?) ∧ w1.heap[blk]? = some (.cells cs' T (0, 0)) ∧ Below w1.heap.size w1 w') ∧
      cs'.size = cs.size ∧ ∀ (i j : Nat) (x : List Int) (n : Int), d'[i]? = some x → x[j]? = some n → cs'[i * c + j]? = some (.int .i64 n)
def GoodC {R : Type} (P : Program) (callK : Nat → List V → (V → Option R) → Option R) : Prop := ∀ f args k r, callK f args k = some r → ∃ v, FunOK P f args v ∧ k v = some r
def Step1 (P : Program) (id : Nat) (o : Oper) (g : List (Nat × Bool)) (t : List V) (h : Heap) (t' : List V) (h' : Heap) : Prop :=
  match isCall o with
  | some (f, args) => ∃ fid caps v, evT t g f = .fn fid caps ∧ FunC P fid (V.pureL h (args.map (evT t g) ++ caps)) v ∧ t' = putT t o.dst v ∧ h' = (bif V.flat v then h else h.freeze (deepRefs h (args.map (evT t g) ++ caps)))
  | none => ∃ v e fz, opV P o t g h id = ⟨true, v, e, fz⟩ ∧ V.noGd v = true ∧ t' = putT t o.dst v ∧ h' = e.run id (h.freeze fz)
def Step (P : Program) (ops : List Oper) (G : List Nat) (base i : Nat) (o : Oper) (t : List V) (h : Heap) (t' : List V) (h' : Heap) : Prop :=
  tagFree G t o.dst = true ∧
  match o.guard with
  | none => Step1 P (base + i) o [] t h t' h'
  | some (j, w) => ∃ d, tmpOf ops j = some d ∧ ((evT t [] (.tmp d) = .tup [] ∧ t' = putT t o.dst (.tup []) ∧ h' = h) ∨ ∃ b, evT t [] (.tmp d) = .bool b ∧
    (if loudG ops o then (b = w ∧ Step1 P (base + i) o [(d, w)] t h t' h') ∨ (b ≠ w ∧ t' = putT t o.dst (.tup []) ∧ h' = h)
     else ∃ c v, opV P o t [(d, w)] h (base + i) = ⟨c, v, .none, []⟩ ∧ V.under base v = true ∧ (b = w → c = true) ∧ t' = putT t o.dst (.gd d w v) ∧ h' = h))
section
variable {P : Program} {R : Type} {callK : Nat → List V → (V → Option R) → Option R}
theorem op1_step (hC : GoodC P callK) {id : Nat} {o : Oper} {g : List (Nat × Bool)} {s : St} {k : St → Option R} {r : R} (h1 : op1 P callK id o g s k = some r) :
    ∃ t' h', Step1 P id o g s.t s.h t' h' ∧ k ⟨t', h', s.n⟩ = some r := by
  unfold op1 at h1
  unfold Step1
  split at h1
  · rename_i f args hc
    rw [hc]
    unfold call1 at h1
    split at h1
    · rename_i fid caps hf
      obtain ⟨v, hv, hk⟩ := hC _ _ _ _ h1
      cases hcl : V.clean v with
      | false => simp [hcl] at hk
      | true =>
        simp only [hcl, cond_true] at hk
        simp only [V.clean, Bool.and_eq_true, List.isEmpty_iff] at hcl
        exact ⟨_, _, ⟨fid, caps, v, hf, ⟨hv, hcl.2, hcl.1⟩, rfl, rfl⟩, hk⟩
    · cases h1
  · rename_i hc
    rw [hc]
    split at h1
    rename_i c v e fz hop
    cases c with
    | false => cases h1
    | true =>
      simp only [cond_true] at h1
      cases hng : V.noGd v with
      | false => simp [hng] at h1
      | true =>
        simp only [hng, cond_true] at h1
        exact ⟨_, _, ⟨v, e, fz, hop, hng, rfl, rfl⟩, h1⟩
theorem set_self {t : List V} {d : Nat} {v : V} (h : t.getD d .undef = v) (hv : v ≠ .undef) : t.set d v = t := by
  have hd : d < t.length := by
    apply Nat.lt_of_not_le
    intro hle
    exact hv (by rw [← h]; simp [List.getD_eq_getElem?_getD, List.getElem?_eq_none hle])
  apply List.ext_getElem?
  intro i
  rw [List.getElem?_set]
  split
  · rename_i e
    subst e
    rw [← h]
    simp [hd, List.getD_eq_getElem?_getD]
  · rfl
theorem evT_bool {t : List V} {d : Nat} {b : Bool} (h : evT t [] (.tmp d) = .bool b) : t.getD d .undef = .bool b := by
  simp only [evT] at h
  split at h
  · simp at h
  · exact h
theorem opK_step (hC : GoodC P callK) {ops : List Oper} {G : List Nat} {base i : Nat} {o : Oper} {s : St} {k : St → Option R} {r : R} (h1 : opK P callK ops G base i o s k = some r) :
    ∃ t' h', Step P ops G base i o s.t s.h t' h' ∧ k ⟨t', h', s.n⟩ = some r := by
  unfold opK at h1
  cases htf : tagFree G s.t o.dst with
  | false => simp [htf] at h1
  | true =>
  simp only [htf, Bool.not_true, cond_false] at h1
  unfold Step
  split at h1
  · rename_i hg
    rw [hg]
    obtain ⟨t', h', h2, h3⟩ := op1_step hC h1
    exact ⟨t', h', ⟨htf, h2⟩, h3⟩
  · rename_i j w hg
    rw [hg]
    split at h1
    · cases h1
    · rename_i d hd
      split at h1
      · rename_i b hb
        have hset := set_self (evT_bool hb) (by simp)
        cases hl : loudG ops o with
        | true =>
          simp only [hl, cond_true] at h1
          cases hbw : b == w with
          | true =>
            simp only [hbw, cond_true] at h1
            have : b = w := by simpa using hbw
            subst this
            rw [hset] at h1
            obtain ⟨t', h', h2, h3⟩ := op1_step hC h1
            exact ⟨t', h', ⟨htf, d, hd, .inr ⟨b, hb, by rw [if_pos rfl]; exact .inl ⟨rfl, h2⟩⟩⟩, h3⟩
          | false =>
            simp only [hbw, cond_false] at h1
            have hne : b ≠ w := by simpa using hbw
            have : (!w) = b := by cases b <;> cases w <;> simp_all
            rw [this, hset] at h1
            exact ⟨_, _, ⟨htf, d, hd, .inr ⟨b, hb, by rw [if_pos rfl]; exact .inr ⟨hne, rfl, rfl⟩⟩⟩, h1⟩
        | false =>
          simp only [hl, cond_false] at h1
          split at h1
          · rename_i c v hop
            cases hu : V.under base v with
            | false => simp [hu] at h1
            | true =>
            simp only [hu, cond_true] at h1
            cases hcc : (c || !(b == w)) with
            | false => simp [hcc] at h1
            | true =>
            simp only [hcc, cond_true] at h1
            refine ⟨_, _, ⟨htf, d, hd, .inr ⟨b, hb, ?_⟩⟩, h1⟩
            rw [if_neg (by simp)]
            refine ⟨c, v, hop, hu, fun e => ?_, rfl, rfl⟩
            subst e
            simpa using hcc
          · cases h1
      · rename_i hb
        exact ⟨_, _, ⟨htf, d, hd, .inl ⟨hb, rfl, rfl⟩⟩, h1⟩
      · cases h1
structure RS (n0 : Nat) (A0 L : Nat → Prop) (G : List Nat) (base : Nat) (w : World) (t : List V) (h : Heap) (a : Array Value) (E : Emb) : Prop where
  s : SRel n0 A0 L w (t.map (res a)) h a E
  tag : ∀ (i j : Nat) (q : Bool) (v : V), t[i]? = some (.gd j q v) → j ∈ G ∧ V.under base v = true
theorem RS.weaken {n0 A0 L L' G base w t h a E} (hL : ∀ k, L k → L' k) (R : RS n0 A0 L G base w t h a E) : RS n0 A0 L' G base w t h a E := ⟨R.s.weaken hL, R.tag⟩
theorem res_put {G : List Nat} {t : List V} {a : Array Value} {d : Nat} {x : Value} (hlen : t.length = a.size) (htag : ∀ (i j : Nat) (q : Bool) (v : V), t[i]? = some (.gd j q v) → j ∈ G) (hf : tagFree G t (some d) = true) (v : V) :
    (t.set d v).map (res (a.setIfInBounds d x)) = (t.map (res a)).set d (res (a.setIfInBounds d x) v) := by
  apply List.ext_getElem?
  intro i
  rw [List.getElem?_map, List.getElem?_set, List.getElem?_set, List.getElem?_map]
  by_cases e : d = i
  · subst e
    simp only [if_true, List.length_map]
    split <;> rfl
  · rw [if_neg e, if_neg e]
    cases hu : t[i]? with
    | none => rfl
    | some u =>
      simp only [Option.map_some, Option.some.injEq]
      cases u with
      | gd j q u =>
        have hj := htag i j q u hu
        have hne : d ≠ j := by
          intro he
          subst he
          unfold tagFree at hf
          simp only at hf
          have h1 : G.any (Nat.beq d) = true := List.any_eq_true.2 ⟨d, hj, by simp⟩
          rw [h1] at hf
          simp only [cond_true, Bool.and_eq_true, Bool.not_eq_true', List.any_eq_false] at hf
          exact hf.2 _ (List.mem_of_getElem? hu) (by simp [hasTag])
        simp only [res, Array.getElem?_setIfInBounds_ne hne]
      | _ => rfl
theorem RS.put {n0 A0 L G base w t h E} {a : Act} (S : SRel n0 A0 L w (t.map (res a.tmps)) h a.tmps E) (htag : ∀ (i j : Nat) (q : Bool) (v : V), t[i]? = some (.gd j q v) → j ∈ G ∧ V.under base v = true) {dst : Option Tmp} (hf : tagFree G t dst = true) {v : V} {x : Value}
    (hv : ∀ d, dst = some d → VRel w h L E (Ab n0 A0 w h E) (res (a.put dst x).tmps v) x) (hg : ∀ j q u, v = .gd j q u → j ∈ G ∧ V.under base u = true) : RS n0 A0 L G base w (putT t dst v) h (a.put dst x).tmps E := by
  cases dst with
  | none => exact ⟨S, htag⟩
  | some d =>
    have hlen : t.length = a.tmps.size := by have := S.len; simpa using this
    refine ⟨?_, fun i j q u hu => ?_⟩
    · show SRel n0 A0 L w ((t.set d v).map (res (a.tmps.setIfInBounds d x))) h (a.tmps.setIfInBounds d x) E
      rw [res_put hlen (fun i j q v h => (htag i j q v h).1) hf v]
      refine ⟨by simp [hlen], fun i u y hu hy => ?_, S.hb, S.hl, S.own, S.inj, S.nh, S.a0⟩
      rw [List.getElem?_set] at hu
      rw [Array.getElem?_setIfInBounds] at hy
      by_cases e : d = i
      · subst e
        rw [if_pos rfl] at hu hy
        split at hu
        · rename_i hlt
          simp only [List.length_map] at hlt
          rw [if_pos (by show d < a.tmps.size; exact hlen ▸ hlt)] at hy
          simp only [Option.some.injEq] at hu hy
          subst hu; subst hy
          exact hv d rfl
        · cases hu
      · rw [if_neg e] at hu hy
        exact S.tv i u y hu hy
    · simp only [putT] at hu
      rw [List.getElem?_set] at hu
      split at hu
      · split at hu
        · simp only [Option.some.injEq] at hu
          exact hg j q u hu
        · cases hu
      · exact htag i j q u hu
theorem calls_next {f : Nat} {vals : Array Value} {w : World} {R : Ending → World → Prop} {T : Ending → World → Prop} (h : Calls P f vals w R) (hr : ∀ e w', R e w' → T e w') : Calls P f vals w T := h.mono hr
theorem pureL_get (h : Heap) (l : List V) (i : Nat) : (V.pureL h l)[i]? = (l[i]?).map (V.pure h) := by rw [pureL_map, List.getElem?_map]
theorem flat_drel {w w' A A' v x} (hf : V.flat v = true) (hd : DRel w A v x) : DRel w' A' v x := by
  induction hd with
  | undef x => exact .undef x
  | int k n => exact .int k n
  | bool b => exact .bool b
  | str s => exact .str s
  | nilp => simp [V.flat] at hf
  | agg cs xs h hc ih =>
    refine .agg cs xs h fun i v x h1 h2 => ih i v x h1 h2 ?_
    have : ∀ (l : List V), V.flatL l = true → ∀ u ∈ l, V.flat u = true := by
      intro l
      induction l with
      | nil => intro _ u hu; cases hu
      | cons y r ih =>
        intro hl u hu
        simp only [V.flatL, Bool.and_eq_true] at hl
        rcases List.mem_cons.1 hu with rfl | hu
        · exact hl.1
        · exact ih hl.2 u hu
    exact this cs (by simpa [V.flat] using hf) v (List.mem_of_getElem? h1)
  | tup cs xs h hc ih =>
    refine .tup cs xs h fun i v x h1 h2 => ih i v x h1 h2 ?_
    have : ∀ (l : List V), V.flatL l = true → ∀ u ∈ l, V.flat u = true := by
      intro l
      induction l with
      | nil => intro _ u hu; cases hu
      | cons y r ih =>
        intro hl u hu
        simp only [V.flatL, Bool.and_eq_true] at hl
        rcases List.mem_cons.1 hu with rfl | hu
        · exact hl.1
        · exact ih hl.2 u hu
    exact this cs (by simpa [V.flat] using hf) v (List.mem_of_getElem? h1)
  | none sh => simp [V.flat] at hf
  | data => simp [V.flat] at hf
  | pdat => simp [V.flat] at hf
  | fn => simp [V.flat] at hf
  | unk => simp [V.flat] at hf
  | mnil => simp [V.flat] at hf
  | mdat => simp [V.flat] at hf
theorem isCall_eq {o : Oper} {f : Operand} {args : List Operand} (h : isCall o = some (f, args)) : ∃ c : Call, o.op = .call c ∧ c.callee = .value f ∧ c.args.toList = args := by
  unfold isCall at h
  split at h
  · rename_i c hc
    split at h
    · rename_i f' hf
      simp only [Option.some.injEq, Prod.mk.injEq] at h
      obtain ⟨rfl, rfl⟩ := h
      exact ⟨c, hc, hf, rfl⟩
    · cases h
  · cases h
theorem step1_sim {n0 A0 L G base w t h E} {a : Act} (R : RS n0 A0 L G base w t h a.tmps E) {g : List (Nat × Bool)} (hg : TagsTrue a.tmps g) {id : Nat} (hid : ¬ L id) {o : Oper} (hf : tagFree G t o.dst = true) {t' h'} (st : Step1 P id o g t h t' h')
    {K : Act → World → Prop} {Q : Exit → Act → World → Prop} (hK : ∀ x w' E', Below n0 w w' → RS n0 A0 (fun k => L k ∨ k = id) G base w' t' h' (a.put o.dst x).tmps E' → K (a.put o.dst x) w') : o.wp P a w K Q := by
  unfold Step1 at st
  unfold Oper.wp
  split at st
  · rename_i f args hc
    obtain ⟨c, hop, hcal, rfl⟩ := isCall_eq hc
    obtain ⟨fid, caps, v, hfv, ⟨⟨⟨fn, code, hfn, hbody, hname⟩, hcalls⟩, hnorefs⟩, rfl, rfl⟩ := st
    have hev := fun x => evT_sound R.s g hg x
    have hf0 := hev f
    rw [hfv] at hf0
    have key : ∃ xs : Array Value, a.eval f = .func (.func fid) #[] xs ∧ caps.length = xs.size ∧ ∀ (i : Nat) (v : V) (x : Value), caps[i]? = some v → xs[i]? = some x → VRel w h L E (Ab n0 A0 w h E) v x := by
      generalize a.eval f = z at hf0
      cases hf0 with
      | pure hd => cases hd with | fn _ _ xs hl hcc => exact ⟨xs, rfl, hl, fun i v x h1 h2 => .pure (hcc i v x h1 h2)⟩
      | fn _ _ xs hl hcc => exact ⟨xs, rfl, hl, hcc⟩
    obtain ⟨xs, hfx, hxl, hxr⟩ := key
    have hrun : (execOp a.eval o).run P w = .ok (.enter fid (c.args.map a.eval ++ xs)) w := by
      have hname' : ¬ fn.name = "runtime.NumGoroutine" := by simpa using hname
      simp [execOp, hop, resolve, hcal, hfx, Deferred.ofValue, invoke, callFunc, hfn, hbody, hname']
    rw [hrun]
    simp only [Oper.upon]
    have hargs := args_rel (VR := VRel w h L E (Ab n0 A0 w h E)) _ _ hev c.args.toList
    have hall : ∀ (i : Nat) (v : V) (x : Value), (c.args.toList.map (evT t g) ++ caps)[i]? = some v → (c.args.map a.eval ++ xs)[i]? = some x → v ∈ c.args.toList.map (evT t g) ++ caps ∧ VRel w h L E (Ab n0 A0 w h E) v x := by
      intro i v x h1 h2
      refine ⟨List.mem_of_getElem? h1, ?_⟩
      rw [List.getElem?_append] at h1
      rw [Array.getElem?_append] at h2
      simp only [List.length_map, Array.length_toList, Array.size_map] at h1 h2
      split at h1
      · rename_i hi
        rw [if_pos hi] at h2
        exact hargs.2 i v x h1 (by simpa using h2)
      · rename_i hi
        rw [if_neg hi] at h2
        exact hxr _ v x h1 h2
    have hlen : (V.pureL h (c.args.toList.map (evT t g) ++ caps)).length = (c.args.map a.eval ++ xs).size := by
      rw [pureL_map]; simp [hxl]
    have htag := R.tag
    cases hflat : V.flat v with
    | true =>
      rw [hflat] at hK
      simp only [cond_true] at hK
      refine calls_next (hcalls w (Aall n0 A0 w) (c.args.map a.eval ++ xs) (fun b hb => hb.2) hlen (fun i v x h1 h2 => ?_)) ?_
      · rw [pureL_get] at h1
        obtain ⟨u, hu, rfl⟩ := Option.map_eq_some_iff.1 h1
        exact toPure_all R.s (hall i u x hu h2).2
      · rintro e w' ⟨x, rfl, hB, hd⟩
        refine hK x w' E (Below.mono hB R.s.nh) ?_
        have S' := (R.s.grow hB).weaken (L' := fun k => L k ∨ k = id) (fun _ h => .inl h)
        refine RS.put S' htag hf (fun d _ => ?_) (fun j q u hu => by subst hu; cases hd)
        have hrv : res (a.put o.dst x).tmps v = v := by cases v <;> first | rfl | (cases hd)
        rw [hrv]
        exact .pure (flat_drel hflat hd)
    | false =>
      rw [hflat] at hK
      simp only [cond_false] at hK
      have Sf := R.s.freeze (deepRefs h (c.args.toList.map (evT t g) ++ caps))
      refine calls_next (hcalls w (Ab n0 A0 w (h.freeze (deepRefs h (c.args.toList.map (evT t g) ++ caps))) E) (c.args.map a.eval ++ xs) (fun b hb => hb.2.1) hlen (fun i v x h1 h2 => ?_)) ?_
      · rw [pureL_get] at h1
        obtain ⟨u, hu, rfl⟩ := Option.map_eq_some_iff.1 h1
        obtain ⟨hm, hv⟩ := hall i u x hu h2
        exact toPure_fz R.s hm hv
      · rintro e w' ⟨x, rfl, hB, hd⟩
        refine hK x w' E (Below.mono hB R.s.nh) ?_
        have S' := (Sf.grow hB).weaken (L' := fun k => L k ∨ k = id) (fun _ h => .inl h)
        refine RS.put S' htag hf (fun d _ => ?_) (fun j q u hu => by subst hu; cases hd)
        have hrv : res (a.put o.dst x).tmps v = v := by cases v <;> first | rfl | (cases hd)
        rw [hrv]
        refine .pure (hd.mono fun b hb => ⟨?_, rfl⟩)
        rcases hb with hb | ⟨hb1, hb2⟩
        · exact ⟨hb.1, Nat.lt_of_lt_of_le hb.2.1 hB.size, hb.2.2⟩
        · refine ⟨.inr (Nat.le_trans R.s.nh hb1), hb2, fun k bl hk _ hm => ?_⟩
          have := (Sf.own k bl b hk hm).2
          omega
  · rename_i hc
    obtain ⟨v, e, fz, hop, hng, rfl, rfl⟩ := st
    obtain ⟨x, w', E', hrun, hB, S', hv⟩ := opV_ok R.s hg hid hop
    have hput : RS n0 A0 (fun k => L k ∨ k = id) G base w' (putT t o.dst v) (e.run id (h.freeze fz)) (a.put o.dst x).tmps E' := by
      refine RS.put S' R.tag hf (fun d _ => ?_) (fun j q u hu => ?_)
      · have hrv : res (a.put o.dst x).tmps v = v := by cases v <;> first | rfl | (simp [V.noGd] at hng)
        rw [hrv]; exact hv
      · subst hu; simp [V.noGd] at hng
    rcases hrun with hrun | ⟨hrun, rfl⟩
    · rw [hrun]; exact hK x w' E' hB hput
    · rw [hrun]; exact hK undef w' E' hB hput
theorem guard_mem {ops : List Oper} {o : Oper} {j : Nat} {w : Bool} {d : Nat} (ho : o ∈ ops) (hg : o.guard = some (j, w)) (hd : tmpOf ops j = some d) : d ∈ guardsOf ops := by
  unfold guardsOf
  exact List.mem_filterMap.2 ⟨o, ho, by rw [hg]; exact hd⟩
theorem put_get_self {a : Act} {d : Nat} {x : Value} {y : Value} (h : (a.put (some d) x).tmps[d]? = some y) : y = x := by
  simp only [Act.put, Array.getElem?_setIfInBounds, if_true] at h
  split at h
  · exact (Option.some.inj h).symm
  · cases h
theorem put_get_ne {a : Act} {dst : Option Tmp} {d : Nat} {x : Value} (h : dst ≠ some d) : (a.put dst x).tmps[d]? = a.tmps[d]? := by
  cases dst with
  | none => rfl
  | some e =>
    have : e ≠ d := fun he => h (by rw [he])
    simp only [Act.put, Array.getElem?_setIfInBounds_ne this]
theorem step_sim {n0 A0 L base w t h E} {a : Act} {ops : Array Oper} (R : RS n0 A0 L (guardsOf ops.toList) base w t h a.tmps E) {i : Nat} {o : Oper} (ho : ops[i]? = some o) (hid : ¬ L (base + i)) {t' h'} (st : Step P ops.toList (guardsOf ops.toList) base i o t h t' h')
    {K : Act → World → Prop} {Q : Exit → Act → World → Prop} (hK : ∀ x w' E', Below n0 w w' → RS n0 A0 (fun k => L k ∨ k = base + i) (guardsOf ops.toList) base w' t' h' (a.put o.dst x).tmps E' → K (a.put o.dst x) w') : wpOp P ops Q i K a w := by
  obtain ⟨hf, st⟩ := st
  unfold wpOp
  rw [ho]
  simp only
  split at st
  · rename_i hg
    have hw : Region.wanted o (yielded ops a.tmps) = true := by simp [Region.wanted, hg]
    rw [if_pos hw]
    exact .inl (step1_sim R (g := []) (fun p hp => by cases hp) hid hf st hK)
  · rename_i j q hg
    obtain ⟨d, hd, ⟨hb, rfl, hh'⟩ | ⟨b, hb, st⟩⟩ := st
    · have hh' := hh'.symm
      subst hh'
      have hbt : t.getD d .undef = .tup [] := by
        simp only [evT] at hb
        split at hb
        · simp at hb
        · exact hb
      have hdl : d < t.length := by
        apply Nat.lt_of_not_le
        intro hle
        simp [List.getD_eq_getElem?_getD, List.getElem?_eq_none hle] at hbt
      have hlen : t.length = a.tmps.size := by have := R.s.len; simpa using this
      have h1 : t[d]? = some (.tup []) := by rw [getD_of (d := V.undef) hdl, hbt]
      have had : a.tmps[d]? = some (.tuple #[]) := by
        have h2 : a.tmps[d]? = some a.tmps[d] := Array.getElem?_eq_getElem (by omega)
        have hv := R.s.tv d (.tup []) _ (by rw [List.getElem?_map, h1]; rfl) h2
        rw [h2]
        obtain ⟨axs, e, hl, _⟩ := tupR hv
        rw [e]
        have : axs = #[] := Array.eq_empty_of_size_eq_zero (by simpa using hl.symm)
        rw [this]
      have hy : yielded ops a.tmps j = none := by
        have hd' : (ops[j]?).bind (·.dst) = some d := by simpa [tmpOf] using hd
        simp [yielded, hd', had]
      have hwant : Region.wanted o (yielded ops a.tmps) = false := by
        simp [Region.wanted, hg, hy]
      rw [hwant, if_neg (by simp)]
      refine hK undef w E (Below.refl _ _) ?_
      exact (RS.put R.s R.tag hf (fun d _ => .pure (.tup [] #[] rfl (fun i v x h => by simp at h))) (fun j q u hu => by cases hu)).weaken (fun _ h => .inl h)
    have hbt := evT_bool hb
    have hdl : d < t.length := by
      apply Nat.lt_of_not_le
      intro hle
      simp [List.getD_eq_getElem?_getD, List.getElem?_eq_none hle] at hbt
    have hlen : t.length = a.tmps.size := by have := R.s.len; simpa using this
    have h1 : t[d]? = some (.bool b) := by rw [getD_of (d := V.undef) hdl, hbt]
    have had : a.tmps[d]? = some (.bool b) := by
      have h2 : a.tmps[d]? = some a.tmps[d] := Array.getElem?_eq_getElem (by omega)
      have hv := R.s.tv d (.bool b) _ (by rw [List.getElem?_map, h1]; rfl) h2
      rw [h2]
      generalize a.tmps[d] = z at hv
      cases hv with | pure hv => cases hv; rfl
    have hy : yielded ops a.tmps j = some b := by
      have hd' : (ops[j]?).bind (·.dst) = some d := by simpa [tmpOf] using hd
      simp [yielded, hd', had]
    have hwant : Region.wanted o (yielded ops a.tmps) = (b == q) := by
      simp [Region.wanted, hg, hy]
    have hmem : d ∈ guardsOf ops.toList := guard_mem (List.mem_of_getElem? (by simpa using ho)) hg hd
    have htags : b = q → TagsTrue a.tmps [(d, q)] := by
      intro e p hp
      simp only [List.mem_singleton] at hp
      subst hp; subst e; exact had
    rw [hwant]
    cases hl : loudG ops.toList o with
    | true =>
      rw [hl, if_pos rfl] at st
      rcases st with ⟨rfl, st⟩ | ⟨hne, rfl, rfl⟩
      · rw [if_pos (by simp)]
        exact .inl (step1_sim R (htags rfl) hid hf st hK)
      · rw [if_neg (by simpa using hne)]
        refine hK undef w E (Below.refl _ _) ?_
        exact (RS.put R.s R.tag hf (fun d _ => .pure (.tup [] #[] rfl (fun i v x h => by simp at h))) (fun j q u hu => by cases hu)).weaken (fun _ h => .inl h)
    | false =>
      rw [hl, if_neg (by simp)] at st
      obtain ⟨c, v, hop, hu, hc, rfl, hh'⟩ := st
      have hh' := hh'.symm
      subst hh'
      by_cases hbq : b = q
      · rw [if_pos (by simpa using hbq)]
        have := hc hbq
        subst this
        obtain ⟨x, w', E', hrun, hB, S', hv⟩ := opV_ok R.s (htags hbq) hid hop
        rw [Eff.run, freeze_nil] at S' hv
        have hput : RS n0 A0 (fun k => L k ∨ k = base + i) (guardsOf ops.toList) base w' (putT t o.dst (.gd d q v)) h (a.put o.dst x).tmps E' := by
          refine RS.put S' R.tag hf (fun e he => ?_) (fun j' q' u hu' => by cases hu'; exact ⟨hmem, hu⟩)
          simp only [res]
          split
          · split
            · exact hv
            · exact .pure (.undef _)
          · exact .pure (.undef _)
        unfold Oper.wp
        rcases hrun with hrun | ⟨hrun, rfl⟩
        · rw [hrun]; exact .inl (hK x w' E' hB hput)
        · rw [hrun]; exact .inl (hK undef w' E' hB hput)
      · rw [if_neg (by simpa using hbq)]
        refine hK undef w E (Below.refl _ _) ?_
        have hput : RS n0 A0 L (guardsOf ops.toList) base w (putT t o.dst (.gd d q v)) h (a.put o.dst undef).tmps E := ?_
        · exact hput.weaken (fun _ h => .inl h)
        refine RS.put R.s R.tag hf (fun e he => ?_) (fun j' q' u hu' => by cases hu'; exact ⟨hmem, hu⟩)
        simp only [res]
        split
        · rename_i b' hb'
          by_cases hde : o.dst = some d
          · rw [hde] at hb'
            have := put_get_self hb'
            simp [undef] at this
          · rw [put_get_ne hde, had] at hb'
            cases hb'
            rw [if_neg hbq]; exact .pure (.undef _)
        · exact .pure (.undef _)
def Chain (P : Program) (ops : Array Oper) (base : Nat) : List Nat → List V → Heap → List V → Heap → Prop
  | [], t, h, tf, hf => tf = t ∧ hf = h
  | i :: U, t, h, tf, hf => ∃ o t1 h1, ops[i]? = some o ∧ Step P ops.toList (guardsOf ops.toList) base i o t h t1 h1 ∧ Chain P ops base U t1 h1 tf hf
theorem opsK_chain (hC : GoodC P callK) {ops : Array Oper} {base : Nat} : ∀ (rest : List Oper) (i : Nat) (s : St) (k : St → Option R) (r : R), (∀ j o, rest[j]? = some o → ops[i + j]? = some o) →
    opsK P callK ops.toList (guardsOf ops.toList) base i rest s k = some r → ∃ tf hf, Chain P ops base (List.range' i rest.length) s.t s.h tf hf ∧ k ⟨tf, hf, s.n⟩ = some r
  | [], i, s, k, r, _, h => ⟨s.t, s.h, ⟨rfl, rfl⟩, h⟩
  | o :: rest, i, s, k, r, ho, h => by
    simp only [opsK] at h
    obtain ⟨t', h', hst, hk⟩ := opK_step hC h
    obtain ⟨tf, hf, hch, hk2⟩ := opsK_chain hC rest (i + 1) ⟨t', h', s.n⟩ k r (fun j o' hj => by
      have := ho (j + 1) o' (by simpa using hj)
      rwa [show i + 1 + j = i + (j + 1) by omega]) hk
    refine ⟨tf, hf, ?_, hk2⟩
    rw [List.length_cons, List.range'_succ]
    exact ⟨o, t', h', by simpa using ho 0 o rfl, hst, hch⟩
def LU (base n : Nat) (U : List Nat) (k : Nat) : Prop := k < base + n ∧ ∀ i ∈ U, k ≠ base + i
theorem LU_step {base n : Nat} {i : Nat} {U : List Nat} (hi : i < n) (hn : i ∉ U) : ∀ k, (LU base n (i :: U) k ∨ k = base + i) → LU base n U k := by
  rintro k (⟨h1, h2⟩ | rfl)
  · exact ⟨h1, fun j hj => h2 j (List.mem_cons_of_mem _ hj)⟩
  · refine ⟨by omega, fun j hj e => hn ?_⟩
    have : i = j := by omega
    exact this ▸ hj
theorem chain_wp {n0 A0 base} {ops : Array Oper} {Q : Exit → Act → World → Prop} {tf hf} : ∀ (U : List Nat) (w : World) (t : List V) (h : Heap) (a : Act) (E : Emb), U.Nodup → (∀ i ∈ U, i < ops.size) → RS n0 A0 (LU base ops.size U) (guardsOf ops.toList) base w t h a.tmps E → Chain P ops base U t h tf hf →
    (∀ a' w' E', a'.defers = a.defers → Below n0 w w' → RS n0 A0 (LU base ops.size []) (guardsOf ops.toList) base w' tf hf a'.tmps E' → Q .normal a' w') → wpOps P ops Q U a w
  | [], w, t, h, a, E, _, _, R, hch, hQ => by
    obtain ⟨rfl, rfl⟩ := hch
    exact hQ a w E rfl (Below.refl _ _) R
  | i :: U, w, t, h, a, E, hnd, hlt, R, hch, hQ => by
    obtain ⟨o, t1, h1, ho, hst, hch⟩ := hch
    rw [wpOps_cons]
    have hnd' := List.nodup_cons.1 hnd
    refine step_sim R ho (fun hL => hL.2 i (by simp) rfl) hst fun x w' E' hB R' => ?_
    refine chain_wp U w' t1 h1 _ E' hnd'.2 (fun j hj => hlt j (List.mem_cons_of_mem _ hj)) (R'.weaken (LU_step (hlt i (by simp)) hnd'.1)) hch fun a' w'' E'' hd hB' R'' => ?_
    exact hQ a' w'' E'' (hd.trans (by cases o.dst <;> rfl)) (hB.trans hB') R''
end
end Go.Vm
