import Derived.Test.YtoldachfmeghkaaGreatVmMap
namespace Go.Vm
def TagsTrue (a : Array Value) (g : List (Nat × Bool)) : Prop := ∀ p ∈ g, a[p.1]? = some (.bool p.2)
section
variable {P : Program}
theorem ofValue_rel {w h L E A} (x : Value) : VRel w h L E A (V.ofValue x) x := by
  cases x <;> try exact .pure (.undef _)
  · exact .pure (.bool _)
  · exact .pure (.int _ _)
  · exact .pure (.str _)
  · rename_i a
    cases a
    · exact .pure .nilp
    · exact .pure (.undef _)
  · rename_i a n c
    cases a <;> cases n <;> cases c <;> first | exact .nils _ | exact .pure (.undef _)
  · rename_i a
    cases a
    · exact .pure .mnil
    · exact .pure (.undef _)
theorem ofValue_refs (x : Value) : V.refs (V.ofValue x) = [] := by
  unfold V.ofValue; split <;> rfl
def res (a : Array Value) : V → V
  | .gd j q v => match a[j]? with
    | some (.bool b) => if b = q then v else .undef
    | _ => .undef
  | v => v
theorem evT_sound {n0 A0 L w t h E} {a : Act} (S : SRel n0 A0 L w (t.map (res a.tmps)) h a.tmps E) (g : List (Nat × Bool)) (hg : TagsTrue a.tmps g) (x : Operand) :
    VRel w h L E (Ab n0 A0 w h E) (evT t g x) (a.eval x) := by
  cases x with
  | tmp d =>
    simp only [evT, Act.eval]
    by_cases hd : d < t.length
    · have h1 := getD_of (d := V.undef) hd
      have hd2 : (d : Nat) < a.tmps.size := by have := S.len; rw [List.length_map] at this; exact this ▸ hd
      have h2 : a.tmps[d]? = some (a.tmps.getD d undef) := by simp [Array.getD_eq_getD_getElem?, Array.getElem?_eq_getElem hd2]
      have hv := S.tv d (res a.tmps (t.getD d .undef)) _ (by rw [List.getElem?_map, h1]; rfl) h2
      split
      · rename_i j q v hgd
        cases hany : g.any (fun p => Nat.beq j p.1 && (q == p.2)) with
        | false => exact .pure (.undef _)
        | true =>
          simp only [cond_true]
          obtain ⟨p, hp, hpp⟩ := List.any_eq_true.1 hany
          simp only [Bool.and_eq_true, beq_iff_eq] at hpp
          have e1 := Nat.eq_of_beq_eq_true hpp.1
          have ht := hg p hp
          rw [← e1, ← hpp.2] at ht
          rw [hgd] at hv
          simpa [res, ht] using hv
      · rename_i hng
        have : res a.tmps (t.getD d .undef) = t.getD d .undef := by
          generalize t.getD d .undef = u at hng
          cases u <;> first | rfl | (exact (hng _ _ _ rfl).elim)
        rw [this] at hv; exact hv
    · have : t.getD d .undef = .undef := by simp [List.getD_eq_getElem?_getD, List.getElem?_eq_none (Nat.le_of_not_lt hd)]
      rw [this]
      exact .pure (.undef _)
  | const v => exact ofValue_rel v
  | global g => exact .pure (.undef _)
  | func f => exact .pure (.fn f [] #[] rfl (fun i v x h => by simp at h))
def StepOK (P : Program) (n0 : Nat) (A0 L : Nat → Prop) (w : World) (t : List V) (h : Heap) (a : Array Value) (id : Nat) (v : V) (e : Eff) (fz : List Nat) (run : Result Next) : Prop :=
  ∃ x w' E', (run = .ok (.value x) w' ∨ (run = .ok .skip w' ∧ x = undef)) ∧ Below n0 w w' ∧ SRel n0 A0 (fun k => L k ∨ k = id) w' t (e.run id (h.freeze fz)) a E' ∧ VRel w' (e.run id (h.freeze fz)) (fun k => L k ∨ k = id) E' (Ab n0 A0 w' (e.run id (h.freeze fz)) E') v x
theorem OpOK.step {n0 A0 L w t h a id v e fz} {s : Sem Value} (hs : OpOK P n0 A0 L w t h a id v e fz (s.run P w)) : StepOK P n0 A0 L w t h a id v e fz ((do pure (.value (← s)) : Sem Next).run P w) := by
  obtain ⟨x, w', E', hr, h1, h2, h3⟩ := hs
  exact ⟨x, w', E', .inl (by simp [hr]), h1, h2, h3⟩
theorem StepOK.val {n0 A0 L w t h a E id} (S : SRel n0 A0 L w t h a E) {v x} (hv : VRel w h L E (Ab n0 A0 w h E) v x) {run : Result Next} (hr : run = .ok (.value x) w) : StepOK P n0 A0 L w t h a id v .none [] run :=
  ⟨x, w, E, .inl hr, Below.refl _ _, (S.freeze []).weaken (fun _ h => .inl h), (hv.freeze []).weaken (fun _ h => .inl h)⟩
theorem parts_rel {VR : V → Value → Prop} (ev : Operand → V) (ρ : Operand → Value) (hev : ∀ x, VR (ev x) (ρ x)) (parts : Array (Nat × Operand)) :
    (parts.toList.map fun (i, x) => (i, ev x)).length = (parts.map fun (i, x) => (i, ρ x)).size ∧
    ∀ (i : Nat) (p : Nat × V) (q : Nat × Value), (parts.toList.map fun (i, x) => (i, ev x))[i]? = some p → (parts.map fun (i, x) => (i, ρ x))[i]? = some q → p.1 = q.1 ∧ VR p.2 q.2 := by
  refine ⟨by simp, fun i p q h1 h2 => ?_⟩
  rw [List.getElem?_map] at h1
  rw [Array.getElem?_map] at h2
  obtain ⟨y, hy, rfl⟩ := Option.map_eq_some_iff.1 h1
  obtain ⟨z, hz, rfl⟩ := Option.map_eq_some_iff.1 h2
  have : y = z := by
    have h3 : parts.toList[i]? = some z := by simpa using hz
    rw [hy] at h3; exact Option.some.inj h3
  subst this
  exact ⟨rfl, hev _⟩
theorem args_rel {VR : V → Value → Prop} (ev : Operand → V) (ρ : Operand → Value) (hev : ∀ x, VR (ev x) (ρ x)) (l : List Operand) : Rw VR (l.map ev) (l.map ρ) := by
  refine ⟨by simp, fun i v x h1 h2 => ?_⟩
  rw [List.getElem?_map] at h1 h2
  obtain ⟨y, hy, rfl⟩ := Option.map_eq_some_iff.1 h1
  obtain ⟨z, hz, rfl⟩ := Option.map_eq_some_iff.1 h2
  rw [hy] at hz; cases hz
  exact hev _
theorem opt_rel {VR : V → Value → Prop} (ev : Operand → V) (ρ : Operand → Value) (hev : ∀ x, VR (ev x) (ρ x)) (o : Option Operand) : (o.map ev = none ∧ o.map ρ = none) ∨ ∃ v y, o.map ev = some v ∧ o.map ρ = some y ∧ VR v y := by
  cases o with
  | none => exact .inl ⟨rfl, rfl⟩
  | some x => exact .inr ⟨_, _, rfl, rfl, hev x⟩
theorem opV_ok {n0 A0 L w t h E} {a : Act} (S : SRel n0 A0 L w (t.map (res a.tmps)) h a.tmps E) {g : List (Nat × Bool)} (hg : TagsTrue a.tmps g) {id : Nat} (hid : ¬ L id) {o : Oper} {v e fz}
    (hr : opV P o t g h id = ⟨true, v, e, fz⟩) : StepOK P n0 A0 L w (t.map (res a.tmps)) h a.tmps id v e fz ((execOp a.eval o).run P w) := by
  have hev := fun x => evT_sound S g hg x
  unfold opV at hr
  split at hr
  · rename_i c x y hop
    split at hr
    · rename_i q hq
      have hc := hev c
      rw [hq] at hc
      have hcv : a.eval c = .bool q := by
        generalize a.eval c = z at hc
        cases hc with | pure hc => cases hc; rfl
      have htag : TagsTrue a.tmps (tagOf c q ++ g) := by
        intro p hp
        rcases List.mem_append.1 hp with hp | hp
        · cases c with
          | tmp d =>
            simp only [tagOf, List.mem_singleton] at hp
            subst hp
            simp only [Act.eval] at hcv
            show a.tmps[d]? = some (.bool q)
            by_cases hd : d < a.tmps.size
            · simp only [Array.getD_eq_getD_getElem?, Array.getElem?_eq_getElem hd, Option.getD_some] at hcv
              rw [Array.getElem?_eq_getElem hd, hcv]
            · simp [Array.getD_eq_getD_getElem?, Array.getElem?_eq_none (Nat.le_of_not_lt hd), undef] at hcv
          | _ => simp [tagOf] at hp
        · exact hg p hp
      have hs := sel_sound (w := w) (h := h) (L := L) (E := E) (A := Ab n0 A0 w h E) (xx := a.eval x) (xy := a.eval y) (fun hq2 => by subst hq2; exact evT_sound S _ htag x) (fun hq2 => by subst hq2; exact evT_sound S _ htag y) hr
      obtain ⟨h1, rfl, rfl⟩ := hs
      refine StepOK.val S h1 ?_
      simp [execOp, hop, hcv, asBool]
    · simp [OR.fail] at hr
  · rename_i hnp
    unfold opD at hr
    split at hr
    · rename_i x hop
      split at hr
      · simp only [OR.val, OR.mk.injEq] at hr
        obtain ⟨_, rfl, rfl, rfl⟩ := hr
        exact StepOK.val S (.nils _) (by simp [execOp, hop, Act.eval])
      · simp only [OR.val, OR.mk.injEq] at hr
        obtain ⟨_, rfl, rfl, rfl⟩ := hr
        exact StepOK.val S (hev x) (by simp [execOp, hop])
    · rename_i x hop
      split at hr
      · simp only [OR.val, OR.mk.injEq] at hr
        obtain ⟨_, rfl, rfl, rfl⟩ := hr
        exact StepOK.val S (.nils _) (by simp [execOp, hop, Act.eval])
      · simp only [OR.val, OR.mk.injEq] at hr
        obtain ⟨_, rfl, rfl, rfl⟩ := hr
        exact StepOK.val S (hev x) (by simp [execOp, hop])
    · rename_i c x y hop
      exact (hnp c x y hop).elim
    · rename_i ty hop
      simp only [OR.mk.injEq] at hr
      obtain ⟨hz, rfl, rfl, rfl⟩ := hr
      have := (opAlloc_ok (P := P) S hid hz).step
      simpa only [execOp, hop] using this
    · rename_i ty x hop
      simp only [OR.mk.injEq] at hr
      obtain ⟨hz, rfl, rfl, rfl⟩ := hr
      have := (opBox_ok (P := P) S hid (hev x) hz).step
      simpa only [execOp, hop] using this
    · rename_i ty parts hop
      obtain ⟨p1, p2⟩ := parts_rel (VR := VRel w h L E (Ab n0 A0 w h E)) _ _ hev parts
      have := (opBuild_ok (P := P) S (id := id) p1 p2 hr).step
      simpa only [execOp, hop] using this
    · rename_i ty len parts hop
      obtain ⟨p1, p2⟩ := parts_rel (VR := VRel w h L E (Ab n0 A0 w h E)) _ _ hev parts
      have := (opBuildSlice_ok (P := P) S hid p1 p2 hr).step
      simpa only [execOp, hop] using this
    · rename_i ty x hop
      have := (OpOK.quiet (id := id) S (opLoad_sound (P := P) S (hev x) hr)).step
      simpa only [execOp, hop] using this
    · rename_i ty x y hop
      obtain ⟨w', E', h1, h2, h3, rfl⟩ := opStore_ok (P := P) (id := id) S (hev x) (nilsTy_rel (hev y)) hr
      refine ⟨undef, w', E', .inr ⟨?_, rfl⟩, h2, h3, .pure (.undef _)⟩
      simp [execOp, hop, h1]
    · rename_i x hop
      have hx := hev x
      split at hr
      · rename_i k i j hxv
        simp only [OR.if, OR.mk.injEq] at hr
        obtain ⟨hex, rfl, rfl, rfl⟩ := hr
        rw [hxv] at hx
        refine StepOK.val S hx ?_
        obtain ⟨b, hb⟩ := Option.isSome_iff_exists.1 hex
        generalize hz : a.eval x = z at hx
        cases hx with
        | pure hd => cases hd
        | ptr _ _ _ _ hL hx2 hh =>
          obtain ⟨_, r, _, rfl⟩ := hh b hb
          simp [execOp, hop, hz]
      · rename_i sh r j hxv
        simp only [OR.val, OR.mk.injEq] at hr
        obtain ⟨_, rfl, rfl, rfl⟩ := hr
        rw [hxv] at hx
        refine StepOK.val S hx ?_
        generalize hz : a.eval x = z at hx
        cases hx with
        | pure hd =>
          cases hd
          simp [execOp, hop, hz]
      · simp [OR.fail] at hr
    · rename_i op ty x y yt hop
      have := (OpOK.quiet (id := id) S (opBin_sound (P := P) (ox := x) (oy := y) (hev x) (hev y) hr)).step
      simpa only [execOp, hop] using this
    · rename_i op ty x hop
      have := (OpOK.quiet (id := id) S (opUn_sound (P := P) (hev x) hr)).step
      simpa only [execOp, hop] using this
    · rename_i src dst x hop
      have := (opConvert_ok (P := P) (id := id) S (hev x) hr).step
      simpa only [execOp, hop] using this
    · rename_i f first caps hop
      simp only [OR.if, OR.mk.injEq] at hr
      obtain ⟨h0, rfl, rfl, rfl⟩ := hr
      have h0 := Nat.eq_of_beq_eq_true h0
      have hf : first = #[] := Array.eq_empty_of_size_eq_zero h0
      subst hf
      refine StepOK.val S (x := .func (.func f) #[] (caps.map a.eval)) (.fn f _ _ (by simp) fun i v x h1 h2 => ?_) (by simp [execOp, hop, Instr.makeFunc])
      have hh := args_rel (VR := VRel w h L E (Ab n0 A0 w h E)) _ _ hev caps.toList
      exact hh.2 i v x h1 (by simpa using h2)
    · rename_i ty l c hop
      have := (opMakeSlice_ok (P := P) S hid (hev l) (hev c) hr).step
      simpa only [execOp, hop] using this
    · rename_i ty x lo hi mx hop
      have := (opSlice_ok (P := P) (id := id) S (hev x) (opt_rel _ _ hev lo) (opt_rel _ _ hev hi) (xmx := mx.map a.eval) (by cases mx <;> rfl) hr).step
      simpa only [execOp, hop] using this
    · rename_i s x f hop
      have := (OpOK.quiet (id := id) S (opFieldAddr_sound (P := P) (hev x) hr)).step
      simpa only [execOp, hop] using this
    · rename_i s x f hop
      have := (OpOK.quiet (id := id) S (opField_sound (P := P) (hev x) hr)).step
      simpa only [execOp, hop] using this
    · rename_i ty x ix hop
      have := (OpOK.quiet (id := id) S (opIndexAddr_sound (P := P) S (hev x) (hev ix) hr)).step
      simpa only [execOp, hop] using this
    · rename_i ty x ix hop
      have := (OpOK.quiet (id := id) S (opIndex_sound (P := P) (hev x) (hev ix) hr)).step
      simpa only [execOp, hop] using this
    · rename_i tt ix hop
      have hx := hev tt
      split at hr
      · rename_i vs hvs
        split at hr
        · rename_i u hu
          simp only [OR.val, OR.mk.injEq] at hr
          obtain ⟨_, rfl, rfl, rfl⟩ := hr
          rw [hvs] at hx
          obtain ⟨axs, hax, hl, hc⟩ := tupR hx
          have hlt : ix < axs.size := by have := (List.getElem?_eq_some_iff.1 hu).1; omega
          exact StepOK.val S (hc ix u _ hu (Array.getElem?_eq_getElem hlt)) (by simp [execOp, hop, hax, Instr.extract, Array.getElem?_eq_getElem hlt])
        · simp [OR.fail] at hr
      · simp [OR.fail] at hr
    · rename_i c hop
      obtain ⟨callee, args, argTypes⟩ := c
      have hargs := args_rel (VR := VRel w h L E (Ab n0 A0 w h E)) _ _ hev args.toList
      have hexec : ∀ b, callee = .builtin b → (execOp a.eval o).run P w = (builtin b argTypes o.type (args.map fun | .const _ => true | _ => false) (args.map a.eval)).run P w := by
        intro b hb
        simp only [execOp, hop, hb, resolve, Sem.run_bind, Sem.run_pure, Result.andThen_ok, invoke]
        rfl
      split at hr
      · rename_i hcb
        simp only at hcb
        split at hr
        · rename_i x hx
          split at hr
          · rename_i ty hty
            have ha : args = #[x] := by simpa using congrArg List.toArray hx
            have ht : argTypes = #[ty] := by simpa using congrArg List.toArray hty
            rw [hexec _ hcb, ha, ht]
            have := (OpOK.quiet (id := id) S (opLen_sound (P := P) (ty := o.type) (fun k b hb hvec => by
              rcases (S.hb k b hb).memV (isMap_vec hvec) with ⟨_, _, h0, hh⟩ | ⟨r, cs, T, hm, hw, hcell, hhd⟩
              · exact ⟨none, 0, by rw [hh, h0]; rfl⟩
              · obtain ⟨cap, hcap, _⟩ := hhd hvec
                exact ⟨_, _, hcap⟩) (fun k b hb hvec hm0 => by
              rcases (S.hb k b hb).memV (isMap_vec hvec) with ⟨_, _, h0, _⟩ | ⟨r, cs, T, hm, _⟩
              · rw [h0]; rfl
              · rw [hm] at hm0; cases hm0) (hev x) hr)).step
            simpa [builtin] using this
          · simp [OR.fail] at hr
        · simp [OR.fail] at hr
      · rename_i hcb
        simp only at hcb
        split at hr
        · rename_i k x r hx
          rw [hexec _ hcb]
          have hne : ∃ o1 os, args.toList = o1 :: os ∧ evT t g o1 = .int k x ∧ os.map (evT t g) = r := by
            cases hl : args.toList with
            | nil => rw [hl] at hx; cases hx
            | cons o1 os => rw [hl] at hx; simp only [List.map_cons, List.cons.injEq] at hx; exact ⟨o1, os, rfl, hx.1, hx.2⟩
          obtain ⟨o1, os, hl, h1, h2⟩ := hne
          rw [hl] at hargs
          have ho1 := hev o1
          rw [h1] at ho1
          have hoi : a.eval o1 = .int k x := by
            generalize a.eval o1 = z at ho1
            cases ho1 with | pure hd => cases hd; rfl
          subst h2
          obtain ⟨y, hy, hv, rfl, rfl⟩ := minL_sound (P := P) (w := w) k x _ (os.map a.eval) v e fz ⟨by simp, fun i v x g1 g2 => hargs.2 (i + 1) v x (by simpa using g1) (by simpa using g2)⟩ hr
          refine StepOK.val S hv ?_
          have ha : args = (o1 :: os).toArray := by simpa using congrArg List.toArray hl
          simp [builtin, Builtin.min_, ha, hoi, hy]
        · simp [OR.fail] at hr
      · rename_i hcb
        simp only at hcb
        split at hr
        · rename_i k x r hx
          rw [hexec _ hcb]
          have hne : ∃ o1 os, args.toList = o1 :: os ∧ evT t g o1 = .int k x ∧ os.map (evT t g) = r := by
            cases hl : args.toList with
            | nil => rw [hl] at hx; cases hx
            | cons o1 os => rw [hl] at hx; simp only [List.map_cons, List.cons.injEq] at hx; exact ⟨o1, os, rfl, hx.1, hx.2⟩
          obtain ⟨o1, os, hl, h1, h2⟩ := hne
          rw [hl] at hargs
          have ho1 := hev o1
          rw [h1] at ho1
          have hoi : a.eval o1 = .int k x := by
            generalize a.eval o1 = z at ho1
            cases ho1 with | pure hd => cases hd; rfl
          subst h2
          obtain ⟨y, hy, hv, rfl, rfl⟩ := maxL_sound (P := P) (w := w) k x _ (os.map a.eval) v e fz ⟨by simp, fun i v x g1 g2 => hargs.2 (i + 1) v x (by simpa using g1) (by simpa using g2)⟩ hr
          refine StepOK.val S hv ?_
          have ha : args = (o1 :: os).toArray := by simpa using congrArg List.toArray hl
          simp [builtin, Builtin.max_, ha, hoi, hy]
        · simp [OR.fail] at hr
      · rename_i hcb
        simp only at hcb
        split at hr
        · rename_i x y hx
          split at hr
          · rename_i ty tx hty
            have ha : args = #[x, y] := by simpa using congrArg List.toArray hx
            have ht : argTypes = #[ty, tx] := by simpa using congrArg List.toArray hty
            rw [hexec _ hcb, ha, ht]
            have := (opAppend_ok (P := P) (rt := o.type) S hid (hev x) (hev y) hr).step
            simpa [builtin] using this
          · simp [OR.fail] at hr
        · simp [OR.fail] at hr
      · rename_i hcb
        simp only at hcb
        split at hr
        · rename_i x y hx
          split at hr
          · rename_i ty tx hty
            have ha : args = #[x, y] := by simpa using congrArg List.toArray hx
            have ht : argTypes = #[ty, tx] := by simpa using congrArg List.toArray hty
            rw [hexec _ hcb, ha, ht]
            have := (opCopy_ok (P := P) (rt := o.type) (id := id) S (hev x) (hev y) hr).step
            simpa [builtin] using this
          · simp [OR.fail] at hr
        · simp [OR.fail] at hr
      · rename_i hcb
        simp only at hcb
        split at hr
        · rename_i x y hx
          split at hr
          · rename_i ty tx hty
            have ha : args = #[x, y] := by simpa using congrArg List.toArray hx
            have ht : argTypes = #[ty, tx] := by simpa using congrArg List.toArray hty
            rw [hexec _ hcb, ha, ht]
            have := (opDelete_ok (P := P) (tk := tx) (rt := o.type) (id := id) S (hev x) (hev y) hr).step
            simpa [builtin] using this
          · simp [OR.fail] at hr
        · simp [OR.fail] at hr
      · simp [OR.fail] at hr
    · rename_i ty hop
      have := (opMakeMap_ok (P := P) S hid hr).step
      simpa only [execOp, hop, Option.map_none] using this
    · rename_i ty m x y hop
      obtain ⟨w', E', h1, h2, h3, rfl⟩ := opMapUpdate_ok (P := P) (id := id) S (hev m) (hev x) (hev y) hr
      refine ⟨undef, w', E', .inr ⟨?_, rfl⟩, h2, h3, .pure (.undef _)⟩
      simp [execOp, hop, h1]
    · rename_i ty m x ok hop
      have := (opLookup_ok (P := P) (id := id) S (hev m) (hev x) hr).step
      simpa only [execOp, hop] using this
    · rename_i ty x hop
      have := (opRange_ok (P := P) S hid (hev x) hr).step
      simpa only [execOp, hop] using this
    · rename_i x hop
      have := (opEntry_ok (P := P) (id := id) S (hev x) hr).step
      simpa only [execOp, hop] using this
    · rename_i x hop
      have := (opNext_ok (P := P) (id := id) (ty := o.type) S (hev x) hr).step
      simpa only [execOp, hop] using this
    · simp [OR.fail] at hr
end
end Go.Vm
