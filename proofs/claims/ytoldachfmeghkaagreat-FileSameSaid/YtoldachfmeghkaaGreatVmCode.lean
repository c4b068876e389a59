import Derived.Test.YtoldachfmeghkaaGreatVmThaw
import Derived.Test.YtoldachfmeghkaaGreatVmSrt
import Derived.LoopN
import Derived.Scope
import Derived.Maps.RangeRun
set_option linter.unusedVariables false
namespace Go.Vm
section
variable {P : Program}
theorem putT_len (t : List V) (d : Option Tmp) (v : V) : (putT t d v).length = t.length := by
  cases d <;> simp [putT]
theorem step_len {ops G base i o t h t' h'} (s : Step P ops G base i o t h t' h') : t'.length = t.length := by
  obtain ⟨_, v, e, fz, _, rfl, _⟩ := step_iff.1 s
  exact putT_len _ _ _
theorem chain_len {ops : Array Oper} {base : Nat} {tf hf} : ∀ {U : List Nat} {t h}, Chain P ops base U t h tf hf → tf.length = t.length
  | [], t, h, hc => by rw [hc.1]
  | i :: U, t, h, hc => by
    obtain ⟨o, t1, h1, _, hs, hc⟩ := hc
    rw [chain_len hc, step_len hs]
theorem chainA_len {ops : Array Oper} {base : Nat} {tf hf} : ∀ {U : List (Nat × Option Nat)} {t h}, ChainA P ops base U t h tf hf → tf.length = t.length
  | [], t, h, hc => by rw [hc.1]
  | i :: U, t, h, hc => by
    obtain ⟨o, t1, h1, _, _, hs, hc⟩ := hc
    rw [chainA_len hc, step_len hs]
theorem forget_get : ∀ {m : List Bool} {t : List V} {i : Nat} {v : V}, (forget m t)[i]? = some v → ∃ u, t[i]? = some u ∧ (v = .undef ∨ (v = u ∧ V.noGd u = true))
  | m, [], i, v, h => by cases m <;> simp [forget] at h
  | [], u :: r, i, v, h => by
    simp only [forget] at h
    cases i with
    | zero =>
      simp only [List.getElem?_cons_zero, Option.some.injEq] at h
      refine ⟨u, rfl, ?_⟩
      subst h
      split
      · exact .inl rfl
      · exact .inl rfl
      · rename_i h1 h2
        refine .inr ⟨rfl, ?_⟩
        cases u <;> first | rfl | exact absurd rfl (h1 _ _ _)
    | succ i => exact forget_get (m := []) (t := r) (by simpa using h)
  | b :: m, u :: r, i, v, h => by
    simp only [forget] at h
    cases i with
    | zero =>
      simp only [List.getElem?_cons_zero, Option.some.injEq] at h
      refine ⟨u, rfl, ?_⟩
      subst h
      cases b with
      | false => exact .inl rfl
      | true =>
        simp only [cond_true]
        split
        · exact .inl rfl
        · exact .inl rfl
        · rename_i h1 h2
          refine .inr ⟨rfl, ?_⟩
          cases u <;> first | rfl | exact absurd rfl (h1 _ _ _)
    | succ i => exact forget_get (m := m) (t := r) (by simpa using h)
theorem forget_len : ∀ (m : List Bool) (t : List V), (forget m t).length = t.length
  | m, [] => by cases m <;> rfl
  | [], u :: r => by simp only [forget, List.length_cons, forget_len [] r]
  | b :: m, u :: r => by simp only [forget, List.length_cons, forget_len m r]
theorem res_noGd {a : Array Value} {v : V} (h : V.noGd v = true) : res a v = v := by cases v <;> first | rfl | simp [V.noGd] at h
theorem SS.enter {n0 A0 w} {s : St} {a : Array Value} (S : SS n0 A0 w s a) (G : List Nat) (size : Nat) (U : List Nat) : ∃ E, RS n0 A0 (LU s.n size U) G s.n w s.t s.h a E := by
  obtain ⟨E, S, hng⟩ := S
  refine ⟨E, ?_, fun i j q v h => ?_⟩
  · have : s.t.map (res a) = s.t := by
      rw [List.map_congr_left (fun v hv => res_noGd (hng v hv))]; simp
    rw [this]
    exact S.weaken fun k hk => ⟨Nat.lt_of_lt_of_le hk (Nat.le_add_right _ _), fun i _ => by omega⟩
  · have := hng _ (List.mem_of_getElem? h)
    simp [V.noGd] at this
theorem SS.leave {n0 A0 w G base size} {t h} {a : Array Value} {E : Emb} (R : RS n0 A0 (LU base size []) G base w t h a E) (m : List Bool) : SS n0 A0 w ⟨forget m t, h, base + size⟩ a := by
  refine ⟨E, ⟨?_, fun i v x h1 h2 => ?_, ?_, ?_, R.s.own, R.s.inj, R.s.nh, R.s.a0⟩, fun v hv => ?_⟩
  · have := R.s.len
    rw [List.length_map] at this
    simp only; rw [forget_len, this]
  · obtain ⟨u, hu, rfl | ⟨rfl, hg⟩⟩ := forget_get h1
    · exact .pure (.undef _)
    · have := R.s.tv i (res a v) x (by rw [List.getElem?_map, hu]; rfl) h2
      rw [res_noGd hg] at this
      exact this.mono (fun b hb => ⟨hb, rfl⟩) (fun k hk => hk.1) (fun k b _ hb => ⟨b, hb, Nat.le_refl _, rfl, rfl, rfl⟩)
  · exact (R.s.weaken (L' := fun k => k < base + size) fun k hk => hk.1).hb
  · exact fun k b hb => (R.s.hl k b hb).1
  · obtain ⟨i, hi⟩ := List.mem_iff_getElem?.1 hv
    obtain ⟨u, hu, rfl | ⟨rfl, hg⟩⟩ := forget_get hi
    · rfl
    · exact hg
theorem SS.drawn {n0 A0 w} {s : St} {a : Array Value} (S : SS n0 A0 w s a) : SS n0 A0 { w with drawn := w.drawn + 1 } s a := by
  obtain ⟨E, S, hng⟩ := S
  exact ⟨E, S.grow (Below.refl _ _).drew, hng⟩
structure RetOK (P : Program) (n0 : Nat) (A0 : Nat → Prop) (fn : Func) (tmps : Array Value) (w : World) (v : V) : Prop where
  run : ∃ x, (results fn tmps).run P w = .ok x w ∧ DRel w (Aall n0 A0 w) v x
  refs : V.refs v = []
  ng : V.noGd v = true
mutual
theorem pure0_refs (h : Heap) : ∀ v : V, V.refs (V.pure0 h v) = []
  | .vs k => by
    rw [V.pure0]
    split
    · cases Blk.vec _ <;> rfl
    · rfl
  | .sub k lo hi => by
    rw [V.pure0]
    split
    · cases Blk.vec _ <;> rfl
    · rfl
  | .mp k => by
    rw [V.pure0]
    split
    · cases Blk.isMp _ <;> rfl
    · rfl
  | .mdat _ => rfl
  | .unk => rfl
  | .it _ _ _ => rfl
  | .ptr _ _ _ => rfl
  | .nils _ => rfl
  | .agg cs => by rw [V.pure0, V.refs]; exact pure0L_refs h cs
  | .tup cs => by rw [V.pure0, V.refs]; exact pure0L_refs h cs
  | .fn _ cs => by rw [V.pure0, V.refs]; exact pure0L_refs h cs
  | .gd _ _ _ => rfl
  | .undef => rfl
  | .int _ _ => rfl
  | .bool _ => rfl
  | .str _ => rfl
  | .nilp => rfl
  | .data _ _ => rfl
  | .pdat _ _ _ => rfl
theorem pure0L_refs (h : Heap) : ∀ l : List V, V.refsL (V.pure0L h l) = []
  | [] => rfl
  | v :: r => by rw [V.pure0L, V.refsL, pure0_refs h v, pure0L_refs h r]; rfl
end
mutual
theorem pure_refs (h : Heap) : ∀ v : V, V.refs (V.pure h v) = []
  | .vs k => by
    rw [V.pure]
    split
    · cases Blk.vec _ <;> rfl
    · rfl
  | .sub k lo hi => by
    rw [V.pure]
    split
    · cases Blk.vec _ <;> rfl
    · rfl
  | .ptr k i j => by
    rw [V.pure]
    split
    · rename_i b _
      cases b.vec with
      | true => rfl
      | false =>
        simp only [cond_false]
        cases holdsL b.sh (V.pure0L h (b.rows.getD i [])) <;> rfl
    · rfl
  | .mp k => by
    rw [V.pure]
    split
    · cases Blk.isMp _ <;> rfl
    · rfl
  | .mdat _ => rfl
  | .unk => rfl
  | .it _ _ _ => rfl
  | .nils _ => rfl
  | .agg cs => by rw [V.pure, V.refs]; exact pureL_refs h cs
  | .tup cs => by rw [V.pure, V.refs]; exact pureL_refs h cs
  | .fn _ cs => by rw [V.pure, V.refs]; exact pureL_refs h cs
  | .gd _ _ _ => rfl
  | .undef => rfl
  | .int _ _ => rfl
  | .bool _ => rfl
  | .str _ => rfl
  | .nilp => rfl
  | .data _ _ => rfl
  | .pdat _ _ _ => rfl
theorem pureL_refs (h : Heap) : ∀ l : List V, V.refsL (V.pureL h l) = []
  | [] => rfl
  | v :: r => by rw [V.pureL, V.refsL, pure_refs h v, pureL_refs h r]; rfl
end
theorem pure_noGd (h : Heap) (v : V) : V.noGd (V.pure h v) = true := by
  cases v <;> try rfl
  · rw [V.pure]
    split
    · cases Blk.vec _ <;> rfl
    · rfl
  · rw [V.pure]
    split
    · cases Blk.vec _ <;> rfl
    · rfl
  · rw [V.pure]
    split
    · rename_i b _
      cases b.vec with
      | true => rfl
      | false =>
        simp only [cond_false]
        cases holdsL b.sh _ <;> rfl
    · rfl
  · rw [V.pure]
    split
    · cases Blk.isMp _ <;> rfl
    · rfl
theorem mapM_run {w : World} {α β : Type} (f : α → Sem β) : ∀ (l : List α) (ys : List β), ys.length = l.length → (∀ (i : Nat) x y, l[i]? = some x → ys[i]? = some y → (f x).run P w = .ok y w) → (l.mapM f).run P w = .ok ys w := by
  intro l
  induction l with
  | nil => intro ys hl h; have : ys = [] := List.eq_nil_of_length_eq_zero hl; subst this; simp
  | cons x l ih =>
    intro ys hl h
    cases ys with
    | nil => cases hl
    | cons y ys =>
      rw [List.mapM_cons]
      have h1 := h 0 x y rfl rfl
      have h2 := ih ys (by simpa using hl) (fun i x y a b => h (i+1) x y (by simpa using a) (by simpa using b))
      simp [h1, h2]
def resRun (tmps : Array Value) : ResultVar → Sem Value
  | .tmp t => pure (tmps.getD t undef)
  | .cell a t => do loadVar t (← asAddr (tmps.getD a undef))
theorem results_eq (fn : Func) (tmps : Array Value) : results fn tmps = (do
    let vs ← fn.results.mapM (resRun tmps)
    pure (if h : vs.size = 1 then vs[0] else .tuple vs)) := by
  unfold results
  have : (fun x : ResultVar => match x with
    | .tmp t => (pure (tmps.getD t undef) : Sem Value)
    | .cell a t => do loadVar t (← asAddr (tmps.getD a undef))) = resRun tmps := by
    funext x; cases x <;> rfl
  rw [← this]
  rfl
theorem resL_run {n0 A0 w} {s : St} {a : Array Value} {E : Emb} (S : SRel n0 A0 (fun k => k < s.n) w s.t s.h a E) (hng : ∀ v ∈ s.t, V.noGd v = true) : ∀ (l : List ResultVar) (vs : List V), resL P s l = some vs →
    ∃ xs : List Value, xs.length = l.length ∧ (∀ (i : Nat) r x, l[i]? = some r → xs[i]? = some x → (resRun a r).run P w = .ok x w) ∧ Rw (VRel w s.h (fun k => k < s.n) E (Ab n0 A0 w s.h E)) vs xs
  | [], vs, h => by
    simp only [resL, Option.some.injEq] at h
    subst h
    exact ⟨[], rfl, fun i r x h => by simp at h, ⟨rfl, fun i v x h => by simp at h⟩⟩
  | r :: l, vs, h => by
    have hev : ∀ d, VRel w s.h (fun k => k < s.n) E (Ab n0 A0 w s.h E) (evT s.t [] (.tmp d)) (a.getD d undef) := by
      intro d
      have hS : SRel n0 A0 (fun k => k < s.n) w (s.t.map (res (⟨a, []⟩ : Act).tmps)) s.h (⟨a, []⟩ : Act).tmps E := by
        have : s.t.map (res a) = s.t := by
          rw [List.map_congr_left (fun v hv => res_noGd (hng v hv))]; simp
        show SRel n0 A0 _ w (s.t.map (res a)) s.h a E
        rw [this]; exact S
      exact evT_sound (a := ⟨a, []⟩) hS [] (fun p hp => by cases hp) (.tmp d)
    simp only [resL] at h
    split at h
    · rename_i v _ _ hr
      split at h
      · rename_i vs' hvs
        simp only [Option.some.injEq] at h
        subst h
        obtain ⟨xs, h1, h2, h3⟩ := resL_run S hng l vs' hvs
        have key : ∃ x, (resRun a r).run P w = .ok x w ∧ VRel w s.h (fun k => k < s.n) E (Ab n0 A0 w s.h E) v x := by
          cases r with
          | tmp t =>
            simp only [resV, OR.val, OR.mk.injEq] at hr
            obtain ⟨_, rfl, _, _⟩ := hr
            exact ⟨_, by simp [resRun], hev t⟩
          | cell b t =>
            obtain ⟨x, hx, hv, _, _⟩ := opLoad_sound (P := P) S (hev b) hr
            refine ⟨x, ?_, hv⟩
            rw [resRun]
            simp only [Instr.loadAt, Sem.run_bind] at hx ⊢
            generalize a.getD b undef = z at hx
            cases z with
            | pointer q =>
              cases q with
              | some q => exact hx
              | none => simp [Instr.sureAddr] at hx
            | _ => simp [Instr.sureAddr] at hx
        obtain ⟨x, hx, hv⟩ := key
        refine ⟨x :: xs, by simp [h1], fun i r' x' g1 g2 => ?_, by simp [h3.1], fun i v' x' g1 g2 => ?_⟩
        · cases i with
          | zero => simp at g1 g2; subst g1; subst g2; exact hx
          | succ i => exact h2 i r' x' (by simpa using g1) (by simpa using g2)
        · cases i with
          | zero => simp at g1 g2; subst g1; subst g2; exact hv
          | succ i => exact h3.2 i v' x' (by simpa using g1) (by simpa using g2)
      · cases h
    · cases h
theorem retK_ok {R : Type} {n0 A0 w} {s : St} {a : Array Value} (S : SS n0 A0 w s a) {fn : Func} {kr : V → Option R} {r : R} (h : retK P fn.results.toList s kr = some r) : ∃ v, RetOK P n0 A0 fn a w v ∧ kr v = some r := by
  obtain ⟨E, S, hng⟩ := S
  unfold retK at h
  cases hr : resL P s fn.results.toList with
  | none => rw [hr] at h; cases h
  | some vs =>
    rw [hr] at h
    obtain ⟨xs, h1, h2, h3⟩ := resL_run S hng _ _ hr
    have hrun : (fn.results.mapM (resRun a)).run P w = .ok xs.toArray w := by
      have e : fn.results = fn.results.toList.toArray := by simp
      rw [e, List.mapM_toArray]
      simp [mapM_run (P := P) (w := w) (resRun a) fn.results.toList xs h1 h2]
    have hres : ∀ x, x = (if h : xs.toArray.size = 1 then xs.toArray[0] else .tuple xs.toArray) → (results fn a).run P w = .ok x w := by
      intro x hx
      rw [results_eq]
      simp only [Sem.run_bind, hrun, Result.andThen_ok, Sem.run_pure, hx]
    have pr : ∀ v x, VRel w s.h (fun k => k < s.n) E (Ab n0 A0 w s.h E) v x → DRel w (Aall n0 A0 w) (V.pure s.h v) x := fun v x hv => toPure_all S hv
    have tup : ∀ vs : List V, Rw (VRel w s.h (fun k => k < s.n) E (Ab n0 A0 w s.h E)) vs xs → vs.length ≠ 1 → kr (.tup (V.pureL s.h vs)) = some r → ∃ v, RetOK P n0 A0 fn a w v ∧ kr v = some r := by
      intro vs h3 hne h
      refine ⟨.tup (V.pureL s.h vs), ⟨⟨.tuple xs.toArray, hres _ (by rw [dif_neg (by simp [← h3.1]; exact hne)]), ?_⟩, ?_, rfl⟩, h⟩
      · rw [pureL_map]
        refine .tup _ _ (by simp [h3.1]) fun i v x g1 g2 => ?_
        rw [List.getElem?_map] at g1
        obtain ⟨u, hu, rfl⟩ := Option.map_eq_some_iff.1 g1
        exact pr _ _ (h3.2 i u x hu (by simpa using g2))
      · rw [V.refs]; exact pureL_refs _ _
    match vs, h3, h with
    | [v], h3, h =>
      have hx : ∃ x, xs = [x] := by
        match xs, h3.1 with
        | [x], _ => exact ⟨x, rfl⟩
      obtain ⟨x, rfl⟩ := hx
      exact ⟨V.pure s.h v, ⟨⟨x, hres _ rfl, pr _ _ (h3.2 0 v x rfl rfl)⟩, pure_refs _ _, pure_noGd _ _⟩, h⟩
    | [], h3, h => exact tup [] h3 (by simp) h
    | a :: b :: r, h3, h => exact tup _ h3 (by simp) h
end
section
variable {R : Type}
def GoodLoop (E : Env R) (id : Nat) (body : Code) : Prop := ∀ s0 kn kx kr r, E.loopK id s0 kn kx kr = some r → ∃ n, loopN E id body s0 kn kx kr n s0 = some r
def GoodRange (E : Env R) (id : Nat) (body : Code) : Prop := ∃ it tn tb, rangeBody body = some (it, tn, tb) ∧
  ∀ s0 kn kx kr r, E.loopK id s0 kn kx kr = some r → ∃ n, rangeN E id (restOf body) it tn tb s0 kn kx kr n s0 = some r
theorem restOf_le : ∀ (c : Code), SizeOf.sizeOf (restOf c) ≤ SizeOf.sizeOf c := by
  intro c
  cases c <;> simp [restOf] <;> omega
def LoopsOK : Code → Env R → Prop
  | .seq a b, E => LoopsOK a E ∧ LoopsOK b E
  | .cond _ a b, E => LoopsOK a E ∧ LoopsOK b E
  | .block id (.loop body), E => ((GoodLoop E id body ∨ GoodRange E id body) ∧ LoopsOK body E) ∨
      ∃ lk, (∀ s0 kn kx kr r, E.loopK id s0 kn kx kr = some r → ∃ n, loopN { E with loopK := lk } id body s0 kn kx kr n s0 = some r) ∧ LoopsOK body { E with loopK := lk }
  | .block _ c, E => LoopsOK c E
  | .scope c, E => LoopsOK c E
  | _, _ => True
structure Sit (E : Env R) (fn : Func) : Prop where
  mixed : E.P.follows .mixedOrders = true
  calls : GoodC E.P E.callK
  res : E.res = fn.results.toList
  sorts : GoodS E.P E.srt
def Post (E : Env R) (fn : Func) (n0 : Nat) (A0 : Nat → Prop) (w0 : World) (a0 : Act) (kn : St → Option R) (kx : Nat → St → Option R) (kr : V → Option R) (r : R) (e : Exit) (a : Act) (w : World) : Prop :=
  Below n0 w0 w ∧ a.defers = a0.defers ∧ a.tmps.size = a0.tmps.size ∧ match e with
  | .normal => ∃ s, SS n0 A0 w s a.tmps ∧ kn s = some r
  | .exit i => ∃ s, SS n0 A0 w s a.tmps ∧ kx i s = some r
  | .ret => ∃ v, RetOK E.P n0 A0 fn a.tmps w v ∧ kr v = some r
  | _ => False
theorem Post.after {E : Env R} {fn n0 A0 w0 a0 w1 a1 kn kx kr r e a w} (hB : Below n0 w0 w1) (hd : a1.defers = a0.defers) (hs : a1.tmps.size = a0.tmps.size) (h : Post E fn n0 A0 w1 a1 kn kx kr r e a w) : Post E fn n0 A0 w0 a0 kn kx kr r e a w :=
  ⟨hB.trans h.1, h.2.1.trans hd, h.2.2.1.trans hs, h.2.2.2⟩
theorem region_wp {E : Env R} {fn : Func} (hE : Sit E fn) {n0 A0} {id : Nat} {ops : Array Oper} {draw : Bool} {s : St} {a : Act} {w : World} {kn kx kr r} (S : SS n0 A0 w s a.tmps) (h : evalK E (.region id ops draw) s kn kx kr = some r) :
    (Code.region id ops draw).wp E.P (Post E fn n0 A0 w a kn kx kr r) a w := by
  simp only [evalK] at h
  have S := S.up (E.base (2 * id))
  generalize s.up (E.base (2 * id)) = s at S h
  have hU : List.range' 0 ops.toList.length = List.range ops.size := by rw [List.range_eq_range']; simp
  cases draw with
  | false =>
    simp only [cond_false] at h
    cases hha : handAt E.srt.hf ops.toList with
    | some q =>
      obtain ⟨init, o, sf, xs, rest⟩ := q
      rw [hha] at h
      obtain ⟨hops, hg, cl, hop, hcal, hargs⟩ := handAt_iff hha
      obtain ⟨Em, R0⟩ := S.enter (guardsOf ops.toList) ops.size (List.range ops.size)
      refine wp_region (hand_region hE.calls hE.sorts hops hg hop hcal hargs h R0 fun a' w' E' tf hf hd hB hlen R' hk => ?_)
      have hlen' : a'.tmps.size = a.tmps.size := by
        have h1 := R'.s.len
        have h2 := R0.s.len
        rw [List.length_map] at h1 h2
        rw [← h1, ← h2, hlen]
      exact ⟨hB, hd, hlen', _, SS.leave R' (E.mask _), hk⟩
    | none =>
    rw [hha] at h
    simp only at h
    cases hsa : sortAt E.srt.f ops.toList with
    | some q =>
      obtain ⟨init, o, sf, x, y⟩ := q
      rw [hsa] at h
      obtain ⟨hops, hg, cl, hop, hcal, hargs⟩ := sortAt_iff hsa
      obtain ⟨Em, R0⟩ := S.enter (guardsOf ops.toList) ops.size (List.range ops.size)
      refine wp_region (sort_region hE.calls hE.sorts hops hg hop hcal hargs h R0 fun a' w' E' tf hf hd hB hlen R' hk => ?_)
      have hlen' : a'.tmps.size = a.tmps.size := by
        have h1 := R'.s.len
        have h2 := R0.s.len
        rw [List.length_map] at h1 h2
        rw [← h1, ← h2, hlen]
      exact ⟨hB, hd, hlen', _, SS.leave R' (E.mask _), hk⟩
    | none =>
    rw [hsa] at h
    obtain ⟨tf, hf, hch, hk⟩ := opsK_chain hE.calls (ops := ops) ops.toList 0 s _ r (fun j o hj => by simpa using hj) h
    rw [hU] at hch
    obtain ⟨Em, R0⟩ := S.enter (guardsOf ops.toList) ops.size (List.range ops.size)
    refine wp_region (chain_wp (List.range ops.size) w s.t s.h a Em List.nodup_range (fun i hi => by simpa using hi) R0 hch fun a' w' E' hd hB R' => ?_)
    have hlen : a'.tmps.size = a.tmps.size := by
      have h1 := R'.s.len
      have h2 := R0.s.len
      rw [List.length_map] at h1 h2
      rw [← h1, ← h2, chain_len hch]
    exact ⟨hB, hd, hlen, _, SS.leave R' (E.mask _), hk⟩
  | true =>
    simp only [cond_true] at h
    cases hs : sortedB s.h with
    | false => rw [hs] at h; cases h
    | true =>
      rw [hs] at h
      simp only [cond_true] at h
      obtain ⟨rs, tf, hf, hl, hch, hk⟩ := opsKd_chain hE.calls (ops := ops) ops.toList 0 [] s _ r (fun j o hj => by simpa using hj) h
      rw [List.nil_append] at hk
      cases hok : okOrder ops.toList rs with
      | false => rw [hok] at hk; cases hk
      | true =>
        rw [hok] at hk
        simp only [cond_true] at hk
        rw [hU] at hch
        have hl' : rs.length = ops.size := by simpa using hl
        have hmap : ((List.range ops.size).zip rs).map (·.1) = List.range ops.size := List.map_fst_zip (by simp [hl'])
        have hback : backB 0 ops.toList = true := by
          simp only [okOrder, Bool.and_eq_true] at hok; exact hok.1
        obtain ⟨Em, R0⟩ := S.drawn.enter (guardsOf ops.toList) ops.size (((List.range ops.size).zip rs).map (·.1))
        have hget : ∀ (i : Nat) (x : Nat × Option Nat), ((List.range ops.size).zip rs)[i]? = some x → x.1 = i ∧ rs[i]? = some x.2 := by
          intro i x hx
          rw [List.getElem?_zip_eq_some] at hx
          refine ⟨?_, hx.2⟩
          have := hx.1
          rw [List.getElem?_eq_some_iff] at this
          obtain ⟨_, h⟩ := this
          simpa using h.symm
        refine wp_region_any hE.mixed (any_wp hback ops.size ((List.range ops.size).zip rs) _ _ s.t s.h a Em (by simp [hl']) ?_ ?_ (by simp) ?_ ?_ ?_ R0 hs hch fun a' w' E' hd hB R' => ?_)
        · rw [hmap]; exact List.pairwise_lt_range
        · intro x hx
          obtain ⟨i, hi⟩ := List.mem_iff_getElem?.1 hx
          have := (hget i x hi).1
          have hil := (List.getElem?_eq_some_iff.1 hi).1
          simp at hil
          omega
        · intro j hj
          rw [hmap]
          simp [hj]
        · intro j hj hn
          rw [hmap] at hn
          exact absurd (by simpa using hj) hn
        · rw [List.pairwise_iff_getElem]
          intro p q hp hq hpq
          have e1 := hget p _ (List.getElem?_eq_getElem hp)
          have e2 := hget q _ (List.getElem?_eq_getElem hq)
          have := order_spec hl' hok hpq e1.2 e2.2
          generalize ((List.range ops.size).zip rs)[p] = x at *
          generalize ((List.range ops.size).zip rs)[q] = y at *
          obtain ⟨x1, x2⟩ := x
          obtain ⟨y1, y2⟩ := y
          obtain ⟨rfl, _⟩ := e1
          obtain ⟨rfl, _⟩ := e2
          exact this
        · have hlen : a'.tmps.size = a.tmps.size := by
            have h1 := R'.s.len
            have h2 := R0.s.len
            rw [List.length_map] at h1 h2
            rw [← h1, ← h2, chainA_len hch]
          exact ⟨(Below.refl n0 w).drew.trans hB, hd, hlen, _, SS.leave R' (E.mask _), hk⟩
theorem inBlock_of {E : Env R} {fn : Func} {n0 A0 w0 a0 kn kx kr r} {id : Nat} {f : St → St} (hf : ∀ {w a s}, SS n0 A0 w s a → a.size = a0.tmps.size → SS n0 A0 w (f s) a) {e a w}
    (h : Post E fn n0 A0 w0 a0 (fun s' => kn (f s')) (fun i s' => bif Nat.beq i id then kn (f s') else kx i s') kr r e a w) : Exit.inBlock id (Post E fn n0 A0 w0 a0 kn kx kr r) e a w := by
  obtain ⟨h1, h2, h3, h4⟩ := h
  cases e with
  | normal =>
    obtain ⟨s, S, hk⟩ := h4
    exact ⟨h1, h2, h3, _, hf S h3, hk⟩
  | exit i =>
    obtain ⟨s, S, hk⟩ := h4
    simp only [Exit.inBlock]
    by_cases hi : i = id
    · rw [if_pos hi]
      rw [hi] at hk
      simp only [Nat.beq_refl, cond_true] at hk
      exact ⟨h1, h2, h3, _, hf S h3, hk⟩
    · rw [if_neg hi]
      have : Nat.beq i id = false := Bool.eq_false_iff.2 fun e => hi (Nat.eq_of_beq_eq_true e)
      simp only [this, cond_false] at hk
      exact ⟨h1, h2, h3, s, S, hk⟩
  | ret => exact ⟨h1, h2, h3, h4⟩
  | _ => exact h4.elim
theorem noGoto_of {E : Env R} {fn : Func} {n0 A0 w0 a0 kn kx kr r e a w} (h : Post E fn n0 A0 w0 a0 kn kx kr r e a w) : Exit.noGoto (Post E fn n0 A0 w0 a0 kn kx kr r) e a w := by
  cases e <;> first | exact h | exact h.2.2.2.elim
theorem loop_rounds {E : Env R} {fn : Func} {n0 A0} {id : Nat} {body : Code} (ih : ∀ {s a w kn kx kr r}, SS n0 A0 w s a.tmps → evalK E body s kn kx kr = some r → body.wp E.P (Post E fn n0 A0 w a kn kx kr r) a w) {s0 : St} (hk0 : ∀ k b, s0.h.get k = some b → k < s0.n)
    {kn kx kr r} {Q : Exit → Act → World → Prop} {w0 : World} {a0 : Act} (hlen0 : s0.t.length = a0.tmps.size) (hQ : ∀ {e a w}, Post E fn n0 A0 w0 a0 (fun s' => kn s') kx kr r e a w → e ≠ .normal → e ≠ .exit id → Q e a w) (hQn : ∀ {a w}, Post E fn n0 A0 w0 a0 kn kx kr r .normal a w → Q (.exit id) a w) :
    ∀ (n : Nat) (s : St) (a : Act) (w : World), SS n0 A0 w s a.tmps → Below n0 w0 w → a.defers = a0.defers → a.tmps.size = a0.tmps.size → loopN E id body s0 kn kx kr n s = some r → Code.rounds E.P body Q n a w
  | 0, s, a, w, S, hB, hd, hs, h => by simp [loopN] at h
  | n + 1, s, a, w, S, hB, hd, hs, h => by
    simp only [loopN] at h
    refine wp_mono (ih S h) fun e a' w' hp => ?_
    obtain ⟨h1, h2, h3, h4⟩ := hp
    cases e with
    | normal =>
      obtain ⟨s', S', hk⟩ := h4
      exact loop_rounds ih hk0 hlen0 hQ hQn n _ a' w' (S'.home hk0 (by rw [hlen0, S'.len, h3, hs])) (hB.trans h1) (h2.trans hd) (h3.trans hs) hk
    | exit i =>
      obtain ⟨s', S', hk⟩ := h4
      by_cases hi : i = id
      · subst hi
        simp only [Nat.beq_refl, cond_true] at hk
        exact hQn ⟨hB.trans h1, h2.trans hd, h3.trans hs, _, S'.home hk0 (by rw [hlen0, S'.len, h3, hs]), hk⟩
      · have : Nat.beq i id = false := Bool.eq_false_iff.2 fun e => hi (Nat.eq_of_beq_eq_true e)
        simp only [this, cond_false] at hk
        exact hQ ⟨hB.trans h1, h2.trans hd, h3.trans hs, s', S', hk⟩ (by simp) (by simpa using hi)
    | ret => exact hQ ⟨hB.trans h1, h2.trans hd, h3.trans hs, h4⟩ (by simp) (by simp)
    | _ => exact h4.elim
theorem SRel.setBoth {n0 A0 L w t h E} {a : Array Value} (S : SRel n0 A0 L w t h a E) {d : Nat} {v : V} {x : Value} (hv : VRel w h L E (Ab n0 A0 w h E) v x) : SRel n0 A0 L w (t.set d v) h (a.setIfInBounds d x) E := by
  refine ⟨by simp [S.len], fun i u y hu hy => ?_, S.hb, S.hl, S.own, S.inj, S.nh, S.a0⟩
  rw [List.getElem?_set] at hu
  rw [Array.getElem?_setIfInBounds] at hy
  by_cases e : d = i
  · subst e
    rw [if_pos rfl] at hu hy
    split at hu
    · split at hy
      · simp only [Option.some.injEq] at hu hy
        subst hu; subst hy; exact hv
      · cases hy
    · cases hu
  · rw [if_neg e] at hu hy
    exact S.tv i u y hu hy
theorem set_noGd {t : List V} {d : Nat} {v : V} (h : ∀ u ∈ t, V.noGd u = true) (hv : V.noGd v = true) : ∀ u ∈ t.set d v, V.noGd u = true := fun u hu => by
  rcases List.mem_or_eq_of_mem_set hu with hu | rfl
  · exact h u hu
  · exact hv
theorem rangeBody_iff {body : Code} {it tn tb : Nat} (h : rangeBody body = some (it, tn, tb)) : ∃ rid ops o1 o2, body = .seq (.region rid ops false) (restOf body) ∧ ops = #[o1, o2] ∧ o1.op = .next (.tmp it) false ∧ o1.dst = some tn ∧ o1.guard = none ∧ o2.op = .extract (.tmp tn) 0 ∧ o2.dst = some tb ∧ o2.guard = none ∧ it ≠ tn ∧ it ≠ tb ∧ tn ≠ tb := by
  unfold rangeBody at h
  split at h
  · rename_i rid ops rest
    split at h
    · rename_i o1 o2 hops
      split at h
      · rename_i it' tn' tn'' tb' e1 e2 e3 e4 e5 e6
        cases hc : Nat.beq tn' tn'' && !Nat.beq it' tn' && !Nat.beq it' tb' && !Nat.beq tn' tb' with
        | false => rw [hc] at h; cases h
        | true =>
          rw [hc] at h
          simp only [cond_true, Option.some.injEq, Prod.mk.injEq] at h
          obtain ⟨rfl, rfl, rfl⟩ := h
          simp only [Bool.and_eq_true, Bool.not_eq_true'] at hc
          obtain ⟨⟨⟨h1, h2⟩, h3⟩, h4⟩ := hc
          have := Nat.eq_of_beq_eq_true h1
          subst this
          refine ⟨rid, ops, o1, o2, rfl, ?_, e1, e2, e3, e4, e5, e6, fun e => ?_, fun e => ?_, fun e => ?_⟩
          · exact congrArg List.toArray hops |> fun h => by simpa using h
          all_goals (subst e; simp at *)
      · cases h
    · cases h
  · cases h
theorem seen_born {es : Array MapEntry} {clk : Nat} (hb : Born es clk) {seen : List Nat} (hs : ∀ i ∈ seen, i < es.size) {i : Nat} {e : MapEntry} (hi : es[i]? = some e) :
    ((seen.reverse.map fun i => (es.getD i default).born).toArray).contains e.born = seen.contains i := by
  rw [Bool.eq_iff_iff]
  simp only [List.contains_toArray, List.contains_eq_mem, decide_eq_true_eq, List.mem_map, List.mem_reverse]
  constructor
  · rintro ⟨j, hj, he⟩
    have hjs := hs j hj
    have hej : es[j]? = some es[j] := Array.getElem?_eq_getElem hjs
    have e1 : es.getD j default = es[j] := by simp [Array.getD_eq_getD_getElem?, hej]
    rw [e1] at he
    rcases Nat.lt_trichotomy i j with h | h | h
    · have := hb.2 i j _ _ hi hej h; omega
    · exact h ▸ hj
    · have := hb.2 j i _ _ hej hi h; omega
  · intro h
    exact ⟨i, h, by simp [Array.getD_eq_getD_getElem?, hi]⟩
theorem range_rounds {E : Env R} {fn : Func} {n0 A0} {id : Nat} {body : Code} {it tn tb : Nat} (hbody : rangeBody body = some (it, tn, tb))
    (ih : ∀ {s a w kn kx kr r}, SS n0 A0 w s a.tmps → evalK E (restOf body) s kn kx kr = some r → (restOf body).wp E.P (Post E fn n0 A0 w a kn kx kr r) a w) {s0 : St} (hk0 : ∀ k b, s0.h.get k = some b → k < s0.n)
    {kn kx kr r} {Q : Exit → Act → World → Prop} {w0 : World} {a0 : Act} (hlen0 : s0.t.length = a0.tmps.size) (hQ : ∀ {e a w}, Post E fn n0 A0 w0 a0 (fun s' => kn s') kx kr r e a w → e ≠ .normal → e ≠ .exit id → Q e a w) (hQn : ∀ {a w}, Post E fn n0 A0 w0 a0 kn kx kr r .normal a w → Q (.exit id) a w) :
    ∀ (n : Nat) (s : St) (a : Act) (w : World), SS n0 A0 w s a.tmps → Below n0 w0 w → a.defers = a0.defers → a.tmps.size = a0.tmps.size → rangeN E id (restOf body) it tn tb s0 kn kx kr n s = some r → Code.rounds E.P body Q n a w
  | 0, s, a, w, S, hB, hd, hs, h => by simp [rangeN] at h
  | n + 1, s, a, w, S, hB, hd, hs, h => by
    obtain ⟨rid, ops, o1, o2, hb1, hops, e1, e2, e3, e4, e5, e6, d1, d2, d3⟩ := rangeBody_iff hbody
    simp only [rangeN] at h
    split at h
    · rename_i k b mt rows seen hit
      have hit' : s.t.getD it .undef = .ptr k 0 0 ∧ s.h.get k = some b ∧ (∃ u, b.rows = [[.it mt rows seen, u]]) ∧ b.isMap = true ∧ b.sh.length = 2 ∧ b.fr = false ∧ tn < s.t.length ∧ mt ≠ 0 := by
        unfold rangeIt at hit
        split at hit
        · rename_i k' ht
          split at hit
          · rename_i b' hb'
            split at hit
            · rename_i mt' rows' seen' u hrows
              cases hc : b'.isMap && Nat.beq b'.sh.length 2 && !b'.fr && Nat.blt tn s.t.length && !Nat.beq mt' 0 with
              | false => rw [hc] at hit; cases hit
              | true =>
                rw [hc] at hit
                simp only [cond_true, Option.some.injEq, Prod.mk.injEq] at hit
                obtain ⟨rfl, rfl, rfl, rfl, rfl⟩ := hit
                simp only [Bool.and_eq_true, Bool.not_eq_true'] at hc
                exact ⟨ht, hb', ⟨u, hrows⟩, hc.1.1.1.1, Nat.eq_of_beq_eq_true hc.1.1.1.2, hc.1.1.2, by simpa [Nat.blt_eq] using hc.1.2, fun e => by have := hc.2; rw [e] at this; cases this⟩
            · cases hit
          · cases hit
        · cases hit
      obtain ⟨ht, hbk, ⟨u, hrows⟩, hm, hsh, hfr, htnl, hmt0⟩ := hit'
      obtain ⟨Em, SR, hng⟩ := S
      obtain ⟨rr, o, hr, ho, hmp, _, hin⟩ := (SR.hb k b hbk).memI hm hsh hrows
      have hitl : it < s.t.length := by
        apply Nat.lt_of_not_le
        intro hle
        rw [List.getD_eq_getElem?_getD, List.getElem?_eq_none hle] at ht
        cases ht
      have hia : a.tmps[it]? = some (.pointer (some ⟨rr, 0, none⟩)) := by
        have hlt : it < a.tmps.size := by rw [← SR.len]; exact hitl
        have h2 : a.tmps[it]? = some a.tmps[it] := Array.getElem?_eq_getElem hlt
        have hv := SR.tv it (.ptr k 0 0) _ (by rw [getD_of (d := V.undef) hitl, ht]) h2
        rw [h2]
        generalize a.tmps[it] = z at hv
        cases hv with
        | pure hd => cases hd
        | ptr _ _ _ _ hL hx hh =>
          obtain ⟨_, r', hr', rfl⟩ := hh b hbk
          rw [hr] at hr'; cases hr'
          simp
      have hev : a.eval (.tmp it) = .pointer (some ⟨rr, 0, none⟩) := by simp [Act.eval, Array.getD_eq_getD_getElem?, hia]
      have hreg : ∀ (w' : World) (q : Bool) (vs : Array Value), vs[0]? = some (.bool q) → (Instr.next (.pointer (some ⟨rr, 0, none⟩)) false o1.type).run E.P w = .ok (.tuple vs) w' →
          ∀ {Q' : Exit → Act → World → Prop}, Q' .normal ((a.put (some tn) (.tuple vs)).put (some tb) (.bool q)) w' → (Code.region rid ops false).wp E.P Q' a w := by
        intro w' q vs hvs hrun Q' hq
        refine wp_region ?_
        have hr2 : List.range ops.size = [0, 1] := by rw [hops]; rfl
        have hw1 : Region.wanted o1 (yielded ops a.tmps) = true := by simp [Region.wanted, e3]
        rw [hr2, wpOps_cons]
        unfold wpOp
        have g0 : ops[0]? = some o1 := by rw [hops]; rfl
        have g1 : ops[1]? = some o2 := by rw [hops]; rfl
        rw [g0]
        simp only
        rw [if_pos hw1]
        refine .inl ?_
        have hx1 : (execOp a.eval o1).run E.P w = .ok (.value (.tuple vs)) w' := by
          simp [execOp, e1, hev, hrun]
        unfold Oper.wp
        rw [hx1, Oper.upon_value, e2, wpOps_cons]
        unfold wpOp
        rw [g1]
        simp only
        have hw2 : ∀ ρ, Region.wanted o2 ρ = true := fun ρ => by simp [Region.wanted, e6]
        rw [if_pos (hw2 _)]
        refine .inl ?_
        have htn : tn < a.tmps.size := by have := SR.len; omega
        · have hev2 : (a.put (some tn) (.tuple vs)).eval (.tmp tn) = .tuple vs := by
            simp [Act.eval, Act.put, Array.getD_eq_getD_getElem?, htn]
          have hx2 : (execOp (a.put (some tn) (.tuple vs)).eval o2).run E.P w' = .ok (.value (.bool q)) w' := by
            simp [execOp, e4, hev2, Instr.extract, hvs]
          unfold Oper.wp
          rw [hx2, Oper.upon_value, e5]
          exact hq
      have hrl : b.rows.length = 1 := by rw [hrows]; rfl
      have key : ∀ Q', (Code.seq (.region rid ops false) (restOf body)).wp E.P Q' a w → body.wp E.P Q' a w := fun Q' h => by rw [hb1]; exact h
      show body.wp E.P (Exit.then (Code.rounds E.P body Q n) Q) a w
      refine key _ (wp_seq ?_)
      have fin : ∀ (w' : World) (q : Bool) (vs : Array Value) (seen' : List Nat) (o' : Obj) (kn' : St → Option R), Below n0 w w' → w'.heap[rr]? = some o' → w'.heap.size = w.heap.size → (∀ p, p ≠ rr → w'.heap[p]? = w.heap[p]?) → ItIn w (Ab n0 A0 w s.h Em) mt rows seen' o' →
          (∀ s', kn' s' = some r → rangeN E id (restOf body) it tn tb s0 kn kx kr n (s0.home s') = some r) →
          evalK E (restOf body) (advIt s k b mt rows seen' tn tb q) kn' (fun i s' => bif Nat.beq i id then kn (s0.home s') else kx i s') kr = some r →
          (restOf body).wp E.P (Exit.then (Code.rounds E.P body Q n) Q) ((a.put (some tn) (.tuple vs)).put (some tb) (.bool q)) w' := by
        intro w' q vs seen' o' kn' hBw ho' hsz hother hin' hkn hev'
        have S1 := SR.putIt hbk hfr hm hmp hsh hrl hr ho ho' hsz hother (mt := mt) hin'
        have S2 := (S1.setBoth (d := tn) (v := .undef) (x := .tuple vs) (.pure (.undef _))).setBoth (d := tb) (v := .bool q) (x := .bool q) (.pure (.bool _))
        have SS' : SS n0 A0 w' (advIt s k b mt rows seen' tn tb q) ((a.put (some tn) (.tuple vs)).put (some tb) (.bool q)).tmps := ⟨Em, S2, set_noGd (set_noGd hng rfl) rfl⟩
        refine wp_mono (ih SS' hev') fun e a'' w'' hp => ?_
        obtain ⟨h1, h2, h3, h4⟩ := hp
        have h3' : a''.tmps.size = a.tmps.size := by rw [h3]; simp [Act.put]
        have h2' : a''.defers = a.defers := h2
        cases e with
        | normal =>
          obtain ⟨s', S', hk⟩ := h4
          exact range_rounds hbody ih hk0 hlen0 hQ hQn n _ a'' w'' (S'.home hk0 (by rw [hlen0, S'.len, h3', hs])) ((hB.trans hBw).trans h1) (h2'.trans hd) (h3'.trans hs) (hkn s' hk)
        | exit i =>
          obtain ⟨s', S', hk⟩ := h4
          by_cases hi : i = id
          · subst hi
            simp only [Nat.beq_refl, cond_true] at hk
            exact hQn ⟨(hB.trans hBw).trans h1, h2'.trans hd, h3'.trans hs, _, S'.home hk0 (by rw [hlen0, S'.len, h3', hs]), hk⟩
          · have : Nat.beq i id = false := Bool.eq_false_iff.2 fun e => hi (Nat.eq_of_beq_eq_true e)
            simp only [this, cond_false] at hk
            exact hQ ⟨(hB.trans hBw).trans h1, h2'.trans hd, h3'.trans hs, s', S', hk⟩ (by simp) (by simpa using hi)
        | ret => exact hQ ⟨(hB.trans hBw).trans h1, h2'.trans hd, h3'.trans hs, h4⟩ (by simp) (by simp)
        | _ => exact h4.elim
      rcases hin with ⟨_, ⟨rfl, rfl, rfl⟩ | ⟨m, es, clk, rfl, hAm, hes, hin, hseen⟩⟩ | ⟨h0, _⟩
      rotate_right
      · exact absurd h0 hmt0
      · have hrun : (Instr.next (.pointer (some ⟨rr, 0, none⟩)) false o1.type).run E.P w = .ok (.tuple #[.bool false]) w := by
          simp [Instr.next, getObj, Sem.run, ho]
        refine hreg w false _ rfl hrun ?_
        have h' : evalK E (restOf body) (advIt s k b mt [] [] tn tb false) (fun _ => none) (fun i s' => bif Nat.beq i id then kn (s0.home s') else kx i s') kr = some r := h
        exact fin w false _ [] _ _ (Below.refl _ _) ho rfl (fun _ _ => rfl) (.inl ⟨hmt0, .inl ⟨rfl, rfl, rfl⟩⟩) (fun s' hx => by cases hx) h'
      · have hlen := hin.len
        have memL : ∀ i, i ∈ leftI rows.length seen ↔ i < rows.length ∧ i ∉ seen := by
          intro i; simp [leftI]
        rcases run_next_at (P := E.P) w o1.type rr m clk clk _ es clk ho hes (fun x hx => by
          obtain ⟨i, hi⟩ := List.mem_iff_getElem?.1 hx
          exact hin.born.1 i x (by simpa using hi)) (Nat.le_refl _) with ⟨h0, hrun⟩ | ⟨e, he, w1, hw1, hrun⟩
        · refine hreg w false _ rfl hrun ?_
          have hemp : (leftI rows.length seen).isEmpty = true := by
            rw [List.isEmpty_iff]
            apply List.eq_nil_iff_forall_not_mem.2
            intro i hi
            obtain ⟨hi1, hi2⟩ := (memL i).1 hi
            have hie : i < es.size := by omega
            have hei : es[i]? = some es[i] := Array.getElem?_eq_getElem hie
            have hc := seen_born hin.born hseen hei
            have hni : seen.contains i = false := by simpa using hi2
            rw [hni] at hc
            have hmem : es[i] ∈ leftOf es ((seen.reverse.map fun i => (es.getD i default).born).toArray) := by
              unfold leftOf
              rw [Array.mem_filter]
              exact ⟨Array.getElem_mem hie, by rw [hc]; rfl⟩
            have hsz0 := Array.eq_empty_of_size_eq_zero h0
            rw [hsz0] at hmem
            simp at hmem
          rw [hemp] at h
          simp only [cond_true] at h
          exact fin w false _ seen _ _ (Below.refl _ _) ho rfl (fun _ _ => rfl) (.inl ⟨hmt0, .inr ⟨m, es, clk, rfl, hAm, hes, hin, hseen⟩⟩) (fun s' hx => by cases hx) h
        · have he' : e ∈ leftOf es ((seen.reverse.map fun i => (es.getD i default).born).toArray) := by simpa using he
          unfold leftOf at he'
          rw [Array.mem_filter] at he'
          obtain ⟨hem, hnc⟩ := he'
          obtain ⟨i, hie, hei⟩ := Array.getElem_of_mem hem
          have hei' : es[i]? = some e := by rw [Array.getElem?_eq_getElem hie, hei]
          have hc := seen_born hin.born hseen hei'
          rw [Bool.not_eq_true'] at hnc
          rw [hnc] at hc
          have hil : i ∈ leftI rows.length seen := (memL i).2 ⟨by omega, by simpa using hc.symm⟩
          have hemp : (leftI rows.length seen).isEmpty = false := by
            cases hx : leftI rows.length seen with
            | nil => rw [hx] at hil; cases hil
            | cons => rfl
          rw [hemp] at h
          simp only [cond_false] at h
          have h' := anyOf_some h i hil
          refine hreg _ true _ rfl hrun ?_
          have hrlt : rr < w.heap.size := (Array.getElem?_eq_some_iff.1 ho).1
          have hrn : n0 ≤ rr := (SR.own k b rr hbk hr).1
          have hw1h : w1.heap = w.heap := by rcases hw1 with rfl | rfl <;> rfl
          refine fin _ true _ (i :: seen) (.mapIter (some m) clk (((seen.reverse.map fun i => (es.getD i default).born).toArray).push e.born) clk) _ ?_ ?_ ?_ ?_ (.inl ⟨hmt0, .inr ⟨m, es, clk, ?_, hAm, hes, hin, fun j hj => ?_⟩⟩) (fun s' hx => hx) h'
          · have hb0 : Below n0 w w1 := by rcases hw1 with rfl | rfl; exact Below.refl _ _; exact (Below.refl _ _).drew
            exact hb0.trans (below_put hrn _)
          · show (w1.heap.setIfInBounds rr _)[rr]? = _
            rw [hw1h, Array.getElem?_setIfInBounds]
            simp [hrlt]
          · show (w1.heap.setIfInBounds rr _).size = _
            rw [hw1h]; simp
          · intro p hp
            show (w1.heap.setIfInBounds rr _)[p]? = _
            rw [hw1h, Array.getElem?_setIfInBounds_ne (Ne.symm hp)]
          · have e1 : es.getD i default = e := by simp [Array.getD_eq_getD_getElem?, hei']
            rw [← e1]
            simp
          · rcases List.mem_cons.1 hj with rfl | hj
            · exact hie
            · exact hseen j hj
    · cases h
theorem Sit.sub {E : Env R} {fn : Func} (hE : Sit E fn) (lk) : Sit { E with loopK := lk } fn := ⟨hE.mixed, hE.calls, hE.res, hE.sorts⟩
set_option maxHeartbeats 2000000 in
theorem evalK_wp {E : Env R} {fn : Func} (hE : Sit E fn) {n0 : Nat} {A0 : Nat → Prop} : ∀ (c : Code), LoopsOK c E → ∀ {s : St} {a : Act} {w : World} {kn kx kr r}, SS n0 A0 w s a.tmps → evalK E c s kn kx kr = some r → c.wp E.P (Post E fn n0 A0 w a kn kx kr r) a w
  | .skip, _, s, a, w, kn, kx, kr, r, S, h => wp_skip ⟨Below.refl _ _, rfl, rfl, s, S, h⟩
  | .label _, _, s, a, w, kn, kx, kr, r, S, h => wp_label ⟨Below.refl _ _, rfl, rfl, s, S, h⟩
  | .region id ops draw, _, s, a, w, kn, kx, kr, r, S, h => region_wp hE S h
  | .seq x y, hL, s, a, w, kn, kx, kr, r, S, h => by
    refine wp_seq (wp_mono (evalK_wp hE x hL.1 S (by simpa only [evalK] using h)) fun e a' w' hp => ?_)
    obtain ⟨h1, h2, h3, h4⟩ := hp
    cases e with
    | normal =>
      obtain ⟨s', S', hk⟩ := h4
      exact wp_mono (evalK_wp hE y hL.2 S' hk) fun e a'' w'' hp => hp.after h1 h2 h3
    | exit i => exact ⟨h1, h2, h3, h4⟩
    | ret => exact ⟨h1, h2, h3, h4⟩
    | _ => exact h4.elim
  | .cond c x y, hL, s, a, w, kn, kx, kr, r, S, h => by
    simp only [evalK] at h
    split at h
    · rename_i q hq
      have hev : a.eval c = .bool q := by
        obtain ⟨Em, R0⟩ := S.enter [] 0 []
        have := evT_sound R0.s [] (fun p hp => by cases hp) c
        rw [hq] at this
        generalize a.eval c = z at this
        cases this with | pure hd => cases hd; rfl
      refine wp_cond hev ?_
      cases q with
      | true => exact evalK_wp hE x hL.1 S h
      | false => exact evalK_wp hE y hL.2 S h
    · rename_i hq
      have hev : ∃ q, a.eval c = .bool q := by
        obtain ⟨Em, R0⟩ := S.enter [] 0 []
        have := evT_sound R0.s [] (fun p hp => by cases hp) c
        rw [hq] at this
        generalize a.eval c = z at this
        cases this with | pure hd => cases hd; exact ⟨_, rfl⟩
      obtain ⟨q, hev⟩ := hev
      obtain ⟨h1, h2⟩ := agree_some h
      refine wp_cond hev ?_
      cases q with
      | true => exact evalK_wp hE x hL.1 S h1
      | false => exact evalK_wp hE y hL.2 S h2
    · cases h
  | .block id c, hL, s, a, w, kn, kx, kr, r, S, h => by
    by_cases hc : ∃ b, c = .loop b
    · obtain ⟨body, rfl⟩ := hc
      simp only [evalK] at h
      have St := (S.up (E.base (2 * id + 1))).thaw
      rcases hL with hL | ⟨lk, hL1, hL2⟩
      rotate_left
      · obtain ⟨n, hn⟩ := hL1 _ _ _ _ _ h
        refine wp_block (wp_loop_rounds n ?_)
        refine loop_rounds (E := { E with loopK := lk }) (fn := fn) (id := id) (s0 := (s.up (E.base (2 * id + 1))).thaw) (kn := kn) (kx := kx) (kr := kr) (r := r) (w0 := w) (a0 := a) (fun S h => evalK_wp (hE.sub lk) body hL2 S h) St.keys St.len ?_ ?_ n _ a w St (Below.refl _ _) rfl rfl hn
        · intro e a' w' hp hne hid
          cases e with
          | normal => exact absurd rfl hne
          | exit i =>
            simp only [Exit.inBlock]
            rw [if_neg (fun e => hid (by rw [e]))]
            exact hp
          | ret => exact hp
          | _ => exact hp.2.2.2.elim
        · intro a' w' hp
          simp only [Exit.inBlock, if_true]
          exact hp
      rcases hL.1 with hL1 | ⟨it, tn, tb, hrb, hL1⟩
      rotate_left
      · obtain ⟨n, hn⟩ := hL1 _ _ _ _ _ h
        have hLr : LoopsOK (restOf body) E := by
          obtain ⟨rid, ops, o1, o2, hb1, _⟩ := rangeBody_iff hrb
          have := hL.2
          rw [hb1] at this
          exact this.2
        have hle := restOf_le body
        refine wp_block (wp_loop_rounds n ?_)
        refine range_rounds (E := E) (fn := fn) (id := id) hrb (s0 := (s.up (E.base (2 * id + 1))).thaw) (kn := kn) (kx := kx) (kr := kr) (r := r) (w0 := w) (a0 := a) (fun S h => evalK_wp hE (restOf body) hLr S h) St.keys St.len ?_ ?_ n _ a w St (Below.refl _ _) rfl rfl hn
        · intro e a' w' hp hne hid
          cases e with
          | normal => exact absurd rfl hne
          | exit i =>
            simp only [Exit.inBlock]
            rw [if_neg (fun e => hid (by rw [e]))]
            exact hp
          | ret => exact hp
          | _ => exact hp.2.2.2.elim
        · intro a' w' hp
          simp only [Exit.inBlock, if_true]
          exact hp
      obtain ⟨n, hn⟩ := hL1 _ _ _ _ _ h
      refine wp_block (wp_loop_rounds n ?_)
      refine loop_rounds (E := E) (fn := fn) (id := id) (s0 := (s.up (E.base (2 * id + 1))).thaw) (kn := kn) (kx := kx) (kr := kr) (r := r) (w0 := w) (a0 := a) (fun S h => evalK_wp hE body hL.2 S h) St.keys St.len ?_ ?_ n _ a w St (Below.refl _ _) rfl rfl hn
      · intro e a' w' hp hne hid
        cases e with
        | normal => exact absurd rfl hne
        | exit i =>
          simp only [Exit.inBlock]
          rw [if_neg (fun e => hid (by rw [e]))]
          exact hp
        | ret => exact hp
        | _ => exact hp.2.2.2.elim
      · intro a' w' hp
        simp only [Exit.inBlock, if_true]
        exact hp
    · have hL' : LoopsOK c E := by cases c <;> first | exact hL | exact absurd ⟨_, rfl⟩ hc
      have h' : evalK E c s (fun s' => kn (s.home s')) (fun i s' => bif Nat.beq i id then kn (s.home s') else kx i s') kr = some r := by
        cases c <;> first | exact absurd ⟨_, rfl⟩ hc | (simpa only [evalK] using h) | exact h
      exact wp_block (wp_mono (evalK_wp hE c hL' S h') fun e a' w' hp => inBlock_of (f := s.home) (fun S' hl => S'.home S.keys (by rw [S.len, S'.len, hl])) hp)
  | .exit id, _, s, a, w, kn, kx, kr, r, S, h => wp_exit ⟨Below.refl _ _, rfl, rfl, s, S, h⟩
  | .ret, _, s, a, w, kn, kx, kr, r, S, h => by
    simp only [evalK, hE.res] at h
    exact wp_ret ⟨Below.refl _ _, rfl, rfl, retK_ok S h⟩
  | .scope c, hL, s, a, w, kn, kx, kr, r, S, h => wp_scope_straight (wp_mono (evalK_wp hE c hL S (by simpa only [evalK] using h)) fun e a' w' hp => noGoto_of hp)
  | .loop _, _, s, a, w, kn, kx, kr, r, S, h => by simp [evalK] at h
  | .goto _, _, s, a, w, kn, kx, kr, r, S, h => by simp [evalK] at h
  | .refuse _, _, s, a, w, kn, kx, kr, r, S, h => by simp [evalK] at h
  | .rangeFunc .., _, s, a, w, kn, kx, kr, r, S, h => by simp [evalK] at h
 termination_by c => SizeOf.sizeOf c
 decreasing_by
  all_goals first | (simp_wf; omega) | (simp_all; omega) | (simp; omega) | decreasing_tactic
def Real (args : List V) : Prop := ∃ (w : World) (A : Nat → Prop) (vals : Array Value), args.length = vals.size ∧ ∀ (i : Nat) (v : V) (x : Value), args[i]? = some v → vals[i]? = some x → DRel w A v x
theorem fn_ok {P : Program} {f : Nat} {fn : Func} {c : Code} {E : Env V} (hE : Sit E fn) (hP : E.P = P) (hf : P.funcs[f]? = some fn) (hb : fn.body = some c) (hname : (fn.name == "runtime.NumGoroutine") = false) (hL : LoopsOK c E) {args : List V} {v : V}
    (h : Real args → fnK E fn args some = some v) : FunOK P f args v := by
  subst hP
  have hrun : ∀ (w : World) (A : Nat → Prop) (vals : Array Value), (∀ b, A b → b < w.heap.size) → args.length = vals.size → (∀ (i : Nat) (v : V) (x : Value), args[i]? = some v → vals[i]? = some x → DRel w A v x) →
      c.wp E.P (Post E fn w.heap.size A w { tmps := vals ++ Array.replicate (fn.ntmps - vals.size) undef, defers := [] } (fun s => retK E.P fn.results.toList s some) (fun _ _ => none) some v) { tmps := vals ++ Array.replicate (fn.ntmps - vals.size) undef, defers := [] } w := by
    intro w A vals hA hl hv
    have h := h ⟨w, A, vals, hl, hv⟩
    unfold fnK at h
    rw [hb] at h
    have hE' : ({ E with res := fn.results.toList } : Env V) = E := by rw [← hE.res]
    simp only [hE'] at h
    refine evalK_wp hE c hL ?_ h
    refine ⟨⟨fun _ => none, fun _ => undef⟩, ⟨by simp [hl], fun i u x h1 h2 => ?_, fun k b hb => by simp [Heap.get] at hb, fun k b hb => by simp [Heap.get] at hb, fun k b r hb => by simp [Heap.get] at hb, fun k b k' b' r hb => by simp [Heap.get] at hb, Nat.le_refl _, hA⟩, fun u hu => ?_⟩
    · simp only at h1 h2
      rw [List.getElem?_append] at h1
      rw [Array.getElem?_append] at h2
      split at h1
      · rename_i hi
        rw [if_pos (by omega)] at h2
        refine .pure ((hv i u x h1 h2).mono fun b hb => ⟨⟨.inl hb, hA b hb, fun k bl hk => by simp [Heap.get] at hk⟩, rfl⟩)
      · rw [List.getElem?_replicate] at h1
        split at h1
        · cases h1; exact .pure (.undef _)
        · cases h1
    · rcases List.mem_append.1 hu with hu | hu
      · obtain ⟨i, hi⟩ := List.mem_iff_getElem?.1 hu
        have hil := (List.getElem?_eq_some_iff.1 hi).1
        have := hv i u _ hi (Array.getElem?_eq_getElem (by omega))
        generalize vals[i] = z at this
        cases this <;> rfl
      · rw [List.mem_replicate] at hu; rw [hu.2]; rfl
  refine ⟨⟨fn, c, hf, hb, hname⟩, fun w A vals hA hl hv => calls_of_wp hf hb (wp_mono (hrun w A vals hA hl hv) fun e a w' hp => ?_)⟩
  · obtain ⟨h1, h2, h3, h4⟩ := hp
    have fin : ∀ u, RetOK E.P w.heap.size A fn a.tmps w' u → some u = some v → a.defers = [] ∧ ∃ x, (results fn a.tmps).run E.P w' = .ok x w' ∧ ∃ y, Ending.returned x = .returned y ∧ Below w.heap.size w w' ∧ DRel w' (fun b => A b ∨ (w.heap.size ≤ b ∧ b < w'.heap.size)) v y := by
      intro u hr hu
      cases hu
      obtain ⟨x, hx, hd⟩ := hr.run
      exact ⟨h2, x, hx, x, rfl, h1, hd.mono fun b hb => ⟨hb.1.imp_right fun h => ⟨h, hb.2⟩, rfl⟩⟩
    cases e with
    | normal =>
      obtain ⟨s, S, hk⟩ := h4
      obtain ⟨u, hr, hu⟩ := retK_ok S hk
      exact fin u hr hu
    | ret =>
      obtain ⟨u, hr, hu⟩ := h4
      exact fin u hr hu
    | exit i => obtain ⟨s, S, hk⟩ := h4; cases hk
    | _ => exact h4.elim
noncomputable def fnH {R : Type} (E : Env R) (fn : Func) (args : List V) (h : Heap) (n : Nat) (kr : V → Option R) : Option R :=
  match fn.body with
  | some c => evalK { E with res := fn.results.toList } c ⟨args ++ List.replicate (fn.ntmps - args.length) .undef, h, n⟩ (fun s => retK E.P fn.results.toList s kr) (fun _ _ => none) kr
  | none => none
theorem hand_ok {P : Program} {f : Nat} {fn : Func} {c : Code} {E : Env V} (hE : Sit E fn) (hP : E.P = P) (hf : P.funcs[f]? = some fn) (hb : fn.body = some c) (hname : (fn.name == "runtime.NumGoroutine") = false) (hL : LoopsOK c E) {args : List V} {hp : Heap} {n : Nat} {v : V}
    (h : fnH E fn args hp n some = some v) : HandOK P f n hp args v := by
  subst hP
  refine ⟨⟨fn, c, hf, hb, hname⟩, fun n0 A0 w vals Em S hng => calls_of_wp hf hb (wp_mono (show c.wp E.P (Post E fn n0 A0 w { tmps := vals ++ Array.replicate (fn.ntmps - vals.size) undef, defers := [] } (fun s => retK E.P fn.results.toList s some) (fun _ _ => none) some v) { tmps := vals ++ Array.replicate (fn.ntmps - vals.size) undef, defers := [] } w from ?_) fun e a w' hp => ?_)⟩
  · unfold fnH at h
    rw [hb] at h
    have hE' : ({ E with res := fn.results.toList } : Env V) = E := by rw [← hE.res]
    simp only [hE'] at h
    have hl := S.len
    refine evalK_wp hE c hL ⟨Em, ⟨by simp [hl], fun i u x h1 h2 => ?_, S.hb, S.hl, S.own, S.inj, S.nh, S.a0⟩, fun u hu => ?_⟩ h
    · simp only at h1 h2
      rw [List.getElem?_append] at h1
      rw [Array.getElem?_append] at h2
      split at h1
      · rename_i hi
        rw [if_pos (by omega)] at h2
        exact S.tv i u x h1 h2
      · rw [List.getElem?_replicate] at h1
        split at h1
        · cases h1; exact .pure (.undef _)
        · cases h1
    · rcases List.mem_append.1 hu with hu | hu
      · exact hng u hu
      · rw [List.mem_replicate] at hu; rw [hu.2]; rfl
  · obtain ⟨h1, h2, h3, h4⟩ := hp
    have fin : ∀ u, RetOK E.P n0 A0 fn a.tmps w' u → some u = some v → a.defers = [] ∧ ∃ x, (results fn a.tmps).run E.P w' = .ok x w' ∧ ∃ y, Ending.returned x = .returned y ∧ Below n0 w w' ∧ DRel w' (Aall n0 A0 w') v y := by
      intro u hr hu
      cases hu
      obtain ⟨x, hx, hd⟩ := hr.run
      exact ⟨h2, x, hx, x, rfl, h1, hd⟩
    cases e with
    | normal =>
      obtain ⟨s, S, hk⟩ := h4
      obtain ⟨u, hr, hu⟩ := retK_ok S hk
      exact fin u hr hu
    | ret =>
      obtain ⟨u, hr, hu⟩ := h4
      exact fin u hr hu
    | exit i => obtain ⟨s, S, hk⟩ := h4; cases hk
    | _ => exact h4.elim
end
end Go.Vm
