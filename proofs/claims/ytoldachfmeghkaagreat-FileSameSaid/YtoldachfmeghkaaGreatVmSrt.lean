import Derived.Test.YtoldachfmeghkaaGreatVmThaw
set_option linter.unusedVariables false
set_option linter.unusedSimpArgs false
namespace Go.Vm
section
variable {P : Program} {R : Type}
def numsOf (rows : List (List V)) : List (List Int) := rows.map fun r => r.map V.toInt
def rowsOf (d : List (List Int)) : List (List V) := d.map fun x => x.map (V.int .i64)
theorem fits_ints {c : Nat} {r : List V} (h : FitsL (List.replicate c (.int .i64)) r) : r.length = c ∧ (r.map V.toInt).map (V.int .i64) = r := by
  obtain ⟨h1, h2⟩ := h
  rw [List.length_replicate] at h1
  refine ⟨h1.symm, ?_⟩
  rw [List.map_map]
  apply List.ext_getElem
  · simp
  · intro i g1 g2
    rw [List.getElem_map]
    have := h2 i (.int .i64) r[i] (by rw [List.getElem?_replicate, if_pos (by omega)]) (List.getElem?_eq_getElem g2)
    cases h3 : r[i] <;> rw [h3] at this <;> cases this
    rfl
theorem rows_nums {c : Nat} {rows : List (List V)} (h : ∀ r ∈ rows, FitsL (List.replicate c (.int .i64)) r) : rowsOf (numsOf rows) = rows := by
  unfold rowsOf numsOf
  rw [List.map_map]
  conv => rhs; rw [← List.map_id rows]
  apply List.map_congr_left
  intro r hr
  exact (fits_ints (h r hr)).2
theorem ints_back (x : List Int) : (x.map (V.int .i64)).map V.toInt = x := by
  rw [List.map_map]
  conv => rhs; rw [← List.map_id x]
  rfl
theorem sort_sim {n0 A0 L G base w t h E} {a : Act} (R : RS n0 A0 L G base w t h a.tmps E) {id : Nat} (hid : ¬ L id) {o : Oper} {cl : Call} {sf : Nat} {x y : Operand} (hop : o.op = .call cl) (hcal : cl.callee = .value (.func sf)) (hargs : cl.args.toList = [x, y])
    (hf : tagFree G t o.dst = true) {kk g : Nat} {caps : List V} {b : Blk} {c : Nat} {dom : List Int → Bool} {cf : List Int → List Int → Int} (hx : evT t [] x = .vs kk) (hy : evT t [] y = .fn g caps) (hb : h.get kk = some b) (hS : SortOK P sf g (V.pureL h caps) c dom cf) (hdom : b.rows.all (fun r => dom (r.map V.toInt)) = true)
    (hvec : b.vec = true) (hfr : b.fr = false) (hsh : b.sh = List.replicate c (.int .i64)) (hc0 : 0 < c) (hn : b.rows.length < 4611686018427387904) (hfz : (deepRefs h caps).any (Nat.beq kk) = false)
    {K : Act → World → Prop} {Q : Exit → Act → World → Prop} (hK : ∀ x w' E' z, z.Perm b.rows → sortedBy cf z → Below n0 w w' → RS n0 A0 (fun k => L k ∨ k = id) G base w' (putT t o.dst (.tup [])) ((h.freeze (deepRefs h caps)).ins kk { b with rows := z }) (a.put o.dst x).tmps E' → K (a.put o.dst x) w') : o.wp P a w K Q := by
  obtain ⟨⟨fn, code, hfn, hbody, hname⟩, hnil, hmain⟩ := hS
  unfold Oper.wp
  have hev := fun x => evT_sound R.s [] (fun _ h => by cases h) x
  have hx0 := hev x
  have hy0 := hev y
  rw [hx] at hx0
  rw [hy] at hy0
  have hB := R.s.hb kk b hb
  have keyx : a.eval x = E.hd kk := by
    generalize a.eval x = z at hx0
    cases hx0 with
    | pure hd => cases hd
    | vs _ _ _ _ hh => exact hh b hb
  have keyy : ∃ xs : Array Value, a.eval y = .func (.func g) #[] xs ∧ caps.length = xs.size ∧ ∀ (i : Nat) (v : V) (x : Value), caps[i]? = some v → xs[i]? = some x → VRel w h L E (Ab n0 A0 w h E) v x := by
    generalize a.eval y = z at hy0
    cases hy0 with
    | pure hd => cases hd with | fn _ _ xs hl hcc => exact ⟨xs, rfl, hl, fun i v x h1 h2 => .pure (hcc i v x h1 h2)⟩
    | fn _ _ xs hl hcc => exact ⟨xs, rfl, hl, hcc⟩
  obtain ⟨xs, hyx, hxl, hxr⟩ := keyy
  have hav : cl.args.map a.eval = #[E.hd kk, .func (.func g) #[] xs] := by
    have h2 : cl.args = #[x, y] := by
      apply Array.toList_inj.1
      simpa using hargs
    rw [h2]
    simp [keyx, hyx]
  have hrun : (execOp a.eval o).run P w = .ok (.enter sf #[E.hd kk, .func (.func g) #[] xs]) w := by
    have hname' : ¬ fn.name = "runtime.NumGoroutine" := by simpa using hname
    simp [execOp, hop, resolve, hcal, Act.eval, Deferred.ofValue, invoke, callFunc, hfn, hbody, hname', hav]
  rw [hrun]
  simp only [Oper.upon]
  have hfz' : (h.freeze (deepRefs h caps)).get kk = some b := by
    rw [Heap.get_freeze, hb]; simp [hfz]
  have hplen : (V.pureL h caps).length = xs.size := by rw [pureL_map]; simp [hxl]
  have hcap : ∀ (i : Nat) (v : V) (x : Value), (V.pureL h caps)[i]? = some v → xs[i]? = some x → DRel w (Ab n0 A0 w (h.freeze (deepRefs h caps)) E) v x := by
    intro i v x h1 h2
    rw [pureL_get] at h1
    obtain ⟨u, hu, rfl⟩ := Option.map_eq_some_iff.1 h1
    exact toPure_fz R.s (List.mem_of_getElem? hu) (hxr i u x hu h2)
  have Sf := R.s.freeze (deepRefs h caps)
  have htag := R.tag
  have hput : ∀ {w' : World} {h'} {E'} {z : Value}, z = .tuple #[] → SRel n0 A0 (fun k => L k ∨ k = id) w' (t.map (res a.tmps)) h' a.tmps E' → RS n0 A0 (fun k => L k ∨ k = id) G base w' (putT t o.dst (.tup [])) h' (a.put o.dst z).tmps E' := by
    intro w' h' E' z hz S'
    subst hz
    refine RS.put S' htag hf (fun d _ => ?_) (fun j q u hu => by cases hu)
    exact .pure (.tup [] #[] rfl (fun i v x h1 h2 => by simp at h1))
  rcases hB.memV (isMap_vec hvec) with ⟨hm, _, hrows, hhd⟩ | ⟨r, cs, T, hm, hw, hcell, hhd⟩
  · rw [hhd]
    refine calls_next (hnil w (Ab n0 A0 w (h.freeze (deepRefs h caps)) E) xs (fun b hb => hb.2.1) hplen hcap) ?_
    rintro e w' ⟨rfl, hBe⟩
    refine hK _ w' E b.rows (List.Perm.refl _) (by rw [hrows]; exact List.Pairwise.nil) (Below.mono hBe R.s.nh) (hput rfl ?_)
    refine ((Sf.grow hBe).get_congr (fun k => ?_)).weaken (fun _ h => .inl h)
    rw [Heap.get_ins]
    split
    · rename_i e; subst e; exact hfz'.symm
    · rfl
  · obtain ⟨cap, hhd, hcap1, hcap2⟩ := hhd hvec
    rw [hhd]
    have hfit : ∀ r ∈ b.rows, FitsL (List.replicate c (.int .i64)) r := fun r hr => by rw [← hsh]; exact hB.fits hvec r hr
    have hnl : (numsOf b.rows).length = b.rows.length := by unfold numsOf; rw [List.length_map]
    have hclen : b.sh.length = c := by rw [hsh, List.length_replicate]
    have hA : ∀ b', Ab n0 A0 w (h.freeze (deepRefs h caps)) E b' → b' < w.heap.size ∧ b' ≠ r := fun b' hb' => ⟨hb'.2.1, fun e => hb'.2.2 kk b hfz' hfr (by rw [e]; exact hm)⟩
    have hm1 := hmain w (Ab n0 A0 w (h.freeze (deepRefs h caps)) E) xs r cap cs T (numsOf b.rows) hA hplen hcap hw (fun x hx => by
        unfold numsOf at hx
        obtain ⟨row, hr, rfl⟩ := List.mem_map.1 hx
        rw [List.length_map]; exact (fits_ints (hfit row hr)).1) (fun x hx => by
        unfold numsOf at hx
        obtain ⟨row, hr, rfl⟩ := List.mem_map.1 hx
        exact List.all_eq_true.1 hdom row hr) (fun i j x n h1 h2 => by
        unfold numsOf at h1
        rw [List.getElem?_map] at h1
        obtain ⟨row, hr, rfl⟩ := Option.map_eq_some_iff.1 h1
        rw [List.getElem?_map] at h2
        obtain ⟨v, hv, rfl⟩ := Option.map_eq_some_iff.1 h2
        obtain ⟨x, hx, hd⟩ := hcell i row j v hr hv
        rw [hclen] at hx
        rw [hx]
        rw [if_pos hvec] at hd
        have hfj := (hfit row (List.mem_of_getElem? hr))
        have hj := (List.getElem?_eq_some_iff.1 hv).1
        have := hfj.2 j (.int .i64) v (by rw [List.getElem?_replicate, if_pos (by rw [(fits_ints hfj).1] at hj; exact hj)]) hv
        cases this
        cases hd
        rfl) (by rw [hnl]; exact hn)
    rw [hnl] at hm1
    refine calls_next hm1 ?_
    rintro e w' ⟨rfl, d', cs', hperm, hsort, ⟨w1, o1, o2, o3, o4, o5, o6, o7, o8⟩, hcsz, hcs'⟩
    have hrows := rows_nums hfit
    have hzperm : (rowsOf d').Perm b.rows := by
      have := hperm.map (fun x : List Int => x.map (V.int .i64))
      rw [show (numsOf b.rows).map (fun x : List Int => x.map (V.int .i64)) = b.rows from hrows] at this
      exact this
    have hzfit : ∀ q ∈ rowsOf d', FitsL b.sh q := fun q hq => hB.fits hvec q (hzperm.mem_iff.1 hq)
    have hzsort : sortedBy cf (rowsOf d') := by
      unfold sortedBy rowsOf
      rw [List.pairwise_map]
      refine hsort.imp ?_
      intro p q h
      rw [ints_back, ints_back]
      exact h
    have hB1 : Below n0 w w1 := by
      refine ⟨o1, o2, o3, o4, Nat.le_of_eq o5.symm, fun q hq => o6 q fun e => ?_⟩
      have := (R.s.own kk b r hb hm).1
      omega
    have S1 := Sf.store (w' := w1) (rows := rowsOf d') hfz' hfr hm hw o7 o5 hcsz o6 (fun q hq => (hzfit q hq).1.symm) (fun _ => hzfit) hzperm.length_eq (fun i row j v g1 g2 => by
      unfold rowsOf at g1
      rw [List.getElem?_map] at g1
      obtain ⟨x, hx, rfl⟩ := Option.map_eq_some_iff.1 g1
      rw [List.getElem?_map] at g2
      obtain ⟨n, hn, rfl⟩ := Option.map_eq_some_iff.1 g2
      refine ⟨_, by rw [hclen]; exact hcs' i j x n hx hn, ?_⟩
      rw [if_pos hvec]
      exact .int _ _)
    refine hK _ w' E (rowsOf d') hzperm hzsort (hB1.trans (Below.mono o8 (by rw [o5]; exact R.s.nh))) (hput rfl ((S1.grow o8).weaken (fun _ h => .inl h)))
theorem bif_some {c : Bool} {x : Option R} {r : R} (h : (bif c then x else none) = some r) : c = true ∧ x = some r := by
  cases c with
  | true => exact ⟨rfl, h⟩
  | false => cases h
theorem putT_len' (t : List V) (d : Option Tmp) (v : V) : (putT t d v).length = t.length := by
  cases d <;> simp [putT]
theorem step_len' {ops G base i o t h t' h'} (s : Step P ops G base i o t h t' h') : t'.length = t.length := by
  obtain ⟨_, v, e, fz, _, rfl, _⟩ := step_iff.1 s
  exact putT_len' _ _ _
theorem chain_len' {ops : Array Oper} {base : Nat} {tf hf} : ∀ {U : List Nat} {t h}, Chain P ops base U t h tf hf → tf.length = t.length
  | [], t, h, hc => by rw [hc.1]
  | i :: U, t, h, hc => by
    obtain ⟨o, t1, h1, _, hs, hc⟩ := hc
    rw [chain_len' hc, step_len' hs]
theorem chain_wp2 {n0 A0 base} {ops : Array Oper} {Q : Exit → Act → World → Prop} {tf hf} {Z : List Nat} : ∀ (U : List Nat) (w : World) (t : List V) (h : Heap) (a : Act) (E : Emb), (U ++ Z).Nodup → (∀ i ∈ U, i < ops.size) → RS n0 A0 (LU base ops.size (U ++ Z)) (guardsOf ops.toList) base w t h a.tmps E → Chain P ops base U t h tf hf →
    (∀ a' w' E', a'.defers = a.defers → Below n0 w w' → RS n0 A0 (LU base ops.size Z) (guardsOf ops.toList) base w' tf hf a'.tmps E' → wpOps P ops Q Z a' w') → wpOps P ops Q (U ++ Z) a w
  | [], w, t, h, a, E, _, _, R, hch, hQ => by
    obtain ⟨rfl, rfl⟩ := hch
    exact hQ a w E rfl (Below.refl _ _) R
  | i :: U, w, t, h, a, E, hnd, hlt, R, hch, hQ => by
    obtain ⟨o, t1, h1, ho, hst, hch⟩ := hch
    rw [List.cons_append, wpOps_cons]
    have hnd' := List.nodup_cons.1 hnd
    refine step_sim R ho (fun hL => hL.2 i (by simp) rfl) hst fun x w' E' hB R' => ?_
    refine chain_wp2 U w' t1 h1 _ E' hnd'.2 (fun j hj => hlt j (List.mem_cons_of_mem _ hj)) (R'.weaken (LU_step (hlt i (by simp)) hnd'.1)) hch fun a' w'' E'' hd hB' R'' => ?_
    exact hQ a' w'' E'' (hd.trans (by cases o.dst <;> rfl)) (hB.trans hB') R''
theorem sortAt_iff {f : Nat → Bool} {ops : List Oper} {init : List Oper} {o : Oper} {sf : Nat} {x y : Operand} (h : sortAt f ops = some (init, o, sf, x, y)) :
    ops = init ++ [o] ∧ o.guard = none ∧ ∃ c : Call, o.op = .call c ∧ c.callee = .value (.func sf) ∧ c.args.toList = [x, y] := by
  unfold sortAt at h
  split at h
  · rename_i o' hl
    split at h
    · rename_i c hop hg
      split at h
      · rename_i sf' x' y' hcal hargs
        cases hf : f sf' with
        | false => rw [hf] at h; cases h
        | true =>
          rw [hf, cond_true] at h
          simp only [Option.some.injEq, Prod.mk.injEq] at h
          obtain ⟨rfl, rfl, rfl, rfl, rfl⟩ := h
          refine ⟨?_, hg, c, hop, hcal, hargs⟩
          obtain ⟨l, hl⟩ := List.getLast?_eq_some_iff.1 hl
          rw [hl, List.dropLast_concat]
      · cases h
    · cases h
  · cases h
def HandOK (P : Program) (sf n : Nat) (h : Heap) (args : List V) (v : V) : Prop :=
  Entered P sf ∧ ∀ (n0 : Nat) (A0 : Nat → Prop) (w : World) (vals : Array Value) (E : Emb), SRel n0 A0 (fun k => k < n) w args h vals E → (∀ u ∈ args, V.noGd u = true) →
    Calls P sf vals w fun e w' => ∃ x, e = .returned x ∧ Below n0 w w' ∧ DRel w' (Aall n0 A0 w') v x
def GoodS (P : Program) (S : Sorts) : Prop := (∀ sf g caps c dom cf, S.k sf g caps = some (c, dom, cf) → SortOK P sf g caps c dom cf) ∧ ∀ sf n h args v, S.hd sf n h args = some v → HandOK P sf n h args v
theorem goodS_no : GoodS P noSort := ⟨fun _ _ _ _ _ _ h => (by cases h), fun _ _ _ _ _ h => (by cases h)⟩
mutual
theorem flat_pure (h : Heap) : ∀ v : V, V.flat v = true → V.pure h v = v
  | .int _ _, _ => rfl
  | .bool _, _ => rfl
  | .str _, _ => rfl
  | .undef, _ => rfl
  | .agg cs, hf => by rw [V.flat] at hf; rw [V.pure, flat_pureL h cs hf]
  | .tup cs, hf => by rw [V.flat] at hf; rw [V.pure, flat_pureL h cs hf]
  | .nils _, hf | .nilp, hf | .data _ _, hf | .pdat _ _ _, hf | .vs _, hf | .sub _ _ _, hf | .ptr _ _ _, hf | .fn _ _, hf | .mp _, hf | .mdat _, hf | .unk, hf | .it _ _ _, hf | .gd _ _ _, hf => by simp [V.flat] at hf
theorem flat_pureL (h : Heap) : ∀ l : List V, V.flatL l = true → V.pureL h l = l
  | [], _ => rfl
  | v :: r, hf => by
    rw [V.flatL, Bool.and_eq_true] at hf
    rw [V.pureL, flat_pure h v hf.1, flat_pureL h r hf.2]
end
theorem evT_noGd (t : List V) (x : Operand) : V.noGd (evT t [] x) = true := by
  cases x with
  | tmp d =>
    simp only [evT]
    cases t.getD d .undef <;> rfl
  | const v =>
    cases v <;> first | rfl | skip
    all_goals (simp only [evT, V.ofValue]; first | rfl | (split <;> rfl))
  | global _ => rfl
  | func _ => rfl
theorem handAt_iff {hf : Nat → Bool} : ∀ {ops init : List Oper} {o : Oper} {sf : Nat} {xs : List Operand} {rest : List Oper}, handAt hf ops = some (init, o, sf, xs, rest) →
    ops = init ++ o :: rest ∧ o.guard = none ∧ ∃ cl : Call, o.op = .call cl ∧ cl.callee = .value (.func sf) ∧ cl.args.toList = xs
  | [], _, _, _, _, _, h => by simp [handAt] at h
  | o :: r, init, o', sf, xs, rest, h => by
    unfold handAt at h
    split at h
    · rename_i sf' xs' hm
      simp only [Option.some.injEq, Prod.mk.injEq] at h
      obtain ⟨rfl, rfl, rfl, rfl, rfl⟩ := h
      split at hm
      · rename_i c hop hg
        split at hm
        · rename_i sf'' hcal
          cases hb : hf sf'' with
          | false => rw [hb] at hm; cases hm
          | true =>
            rw [hb] at hm
            simp only [cond_true, Option.some.injEq, Prod.mk.injEq] at hm
            obtain ⟨rfl, rfl⟩ := hm
            exact ⟨rfl, hg, c, hop, hcal, rfl⟩
        · cases hm
      · cases hm
    · split at h
      · rename_i i o2 sf2 xs2 r2 hr
        simp only [Option.some.injEq, Prod.mk.injEq] at h
        obtain ⟨rfl, rfl, rfl, rfl, rfl⟩ := h
        obtain ⟨h1, h2, h3⟩ := handAt_iff hr
        exact ⟨by rw [h1]; rfl, h2, h3⟩
      · cases h
theorem hand_sim {n0 A0 L G base w t h E} {a : Act} (R : RS n0 A0 L G base w t h a.tmps E) {n : Nat} (hLn : ∀ k, L k → k < n) {L' : Nat → Prop} {o : Oper} {cl : Call} {sf : Nat} (hop : o.op = .call cl) (hcal : cl.callee = .value (.func sf))
    (hf : tagFree G t o.dst = true) {v : V} (hH : HandOK P sf n h (cl.args.toList.map (evT t [])) v) (hcl : V.clean v = true)
    {K : Act → World → Prop} {Q : Exit → Act → World → Prop} (hK : ∀ x w', Below n0 w w' → RS n0 A0 L' G base w' (putT (t.map flatV) o.dst v) [] (a.put o.dst x).tmps E → K (a.put o.dst x) w') : o.wp P a w K Q := by
  obtain ⟨⟨fn, code, hfn, hbody, hname⟩, hmain⟩ := hH
  unfold Oper.wp
  have hev := fun x => evT_sound R.s [] (fun _ h => by cases h) x
  have hrun : (execOp a.eval o).run P w = .ok (.enter sf (cl.args.map a.eval)) w := by
    have hname' : ¬ fn.name = "runtime.NumGoroutine" := by simpa using hname
    have hfx : a.eval (.func sf) = .func (.func sf) #[] #[] := rfl
    simp [execOp, hop, resolve, hcal, hfx, Deferred.ofValue, invoke, callFunc, hfn, hbody, hname']
  rw [hrun]
  simp only [Oper.upon]
  have S' := R.s.weaken hLn
  have hlenT : t.length = a.tmps.size := by have := R.s.len; simpa using this
  have hall : SRel n0 A0 (fun k => k < n) w (cl.args.toList.map (evT t [])) h (cl.args.map a.eval) E := by
    refine ⟨by simp, fun i v x h1 h2 => ?_, S'.hb, S'.hl, S'.own, S'.inj, S'.nh, S'.a0⟩
    rw [List.getElem?_map] at h1
    obtain ⟨y, hy, rfl⟩ := Option.map_eq_some_iff.1 h1
    rw [Array.getElem?_map, ← Array.getElem?_toList, hy] at h2
    simp only [Option.map_some, Option.some.injEq] at h2
    subst h2
    exact (hev y).weaken hLn
  refine calls_next (hmain n0 A0 w _ E hall fun u hu => ?_) ?_
  · obtain ⟨y, _, rfl⟩ := List.mem_map.1 hu
    exact evT_noGd t y
  · rintro e w' ⟨x, rfl, hB, hd⟩
    refine hK x w' hB ?_
    simp only [V.clean, Bool.and_eq_true] at hcl
    have hres : ∀ u : V, V.noGd u = true → ∀ z, res z u = u := fun u hu z => by cases u <;> first | rfl | cases hu
    have hfl : ∀ u : V, V.noGd (flatV u) = true := fun u => by
      unfold flatV
      cases hf : V.flat u with
      | true => cases u <;> first | rfl | simp [V.flat] at hf
      | false => rfl
    refine RS.put ⟨by simp [hlenT], fun i u y h1 h2 => ?_, fun k b hb => (by simp [Heap.get] at hb), fun k b hb => (by simp [Heap.get] at hb), fun k b r hb => (by simp [Heap.get] at hb), fun k b k' b' r hb => (by simp [Heap.get] at hb), Nat.le_trans R.s.nh hB.size, R.s.a0⟩ (fun i j q u hu => ?_) ?_ (fun d _ => ?_) (fun j q u hu => ?_)
    · rw [List.getElem?_map, List.getElem?_map] at h1
      obtain ⟨u1, hu1, rfl⟩ := Option.map_eq_some_iff.1 h1
      obtain ⟨u0, hu0, rfl⟩ := Option.map_eq_some_iff.1 hu1
      rw [hres _ (hfl u0)]
      unfold flatV
      cases hff : V.flat u0 with
      | false => exact .pure (.undef _)
      | true =>
        have hg0 : V.noGd u0 = true := by cases u0 <;> first | rfl | simp [V.flat] at hff
        have hv0 := R.s.tv i u0 y (by rw [List.getElem?_map, hu0]; simp [hres _ hg0]) h2
        have hd0 := toPure_all R.s hv0
        rw [flat_pure h u0 hff] at hd0
        exact .pure (flat_drel hff hd0)
    · rw [List.getElem?_map] at hu
      obtain ⟨u0, _, hu0⟩ := Option.map_eq_some_iff.1 hu
      have := hfl u0
      rw [hu0] at this
      cases this
    · cases hdst : o.dst with
      | none => rfl
      | some d =>
        simp only [tagFree]
        have e1 : V.noGd ((t.map flatV).getD d .undef) = true := by
          rw [List.getD_eq_getElem?_getD, List.getElem?_map]
          cases t[d]? with
          | none => rfl
          | some u => exact hfl u
        have e2 : (t.map flatV).any (hasTag d) = false := by
          rw [List.any_eq_false]
          intro u hu
          obtain ⟨u0, _, rfl⟩ := List.mem_map.1 hu
          have noTag : ∀ u, V.noGd u = true → hasTag d u = false := fun u h => by cases u <;> first | rfl | simp [V.noGd] at h
          simpa using noTag _ (hfl u0)
        rw [e1, e2]
        simp
    · rw [hres v hcl.1]
      refine .pure (hd.mono fun b hb => ⟨⟨hb.1, hb.2, fun k bl hk => by simp [Heap.get] at hk⟩, rfl⟩)
    · subst hu; cases hcl.1
theorem hand_region {callK : Nat → List V → (V → Option R) → Option R} (hC : GoodC P callK) {S : Sorts} (hS : GoodS P S) {n0 A0} {ops : Array Oper} {init rest : List Oper} {o : Oper} {sf : Nat} {xs : List Operand} (hops : ops.toList = init ++ o :: rest) (hg : o.guard = none) {cl : Call} (hop : o.op = .call cl) (hcal : cl.callee = .value (.func sf)) (hargs : cl.args.toList = xs)
    {s : St} {kn : St → Option R} {r : R} (h : opsK P callK ops.toList (guardsOf ops.toList) s.n 0 init s (fun s1 => handStep S (guardsOf ops.toList) (s.n + ops.size) o sf xs s1 fun s2 => opsK P callK ops.toList (guardsOf ops.toList) s.n (init.length + 1) rest s2 kn) = some r)
    {w : World} {a : Act} {E : Emb} (R0 : RS n0 A0 (LU s.n ops.size (List.range ops.size)) (guardsOf ops.toList) s.n w s.t s.h a.tmps E) {Q : Exit → Act → World → Prop}
    (hQ : ∀ a' w' E' tf hf, a'.defers = a.defers → Below n0 w w' → tf.length = s.t.length → RS n0 A0 (LU s.n ops.size []) (guardsOf ops.toList) s.n w' tf hf a'.tmps E' → kn ⟨tf, hf, s.n⟩ = some r → Q .normal a' w') : wpOps P ops Q (List.range ops.size) a w := by
  subst hargs
  have hsize : ops.size = init.length + 1 + rest.length := by
    rw [← Array.length_toList, hops, List.length_append, List.length_cons]; omega
  obtain ⟨t1, h1, hch, hk⟩ := opsK_chain hC (ops := ops) init 0 s _ r (fun j o' hj => by
    have hl := (List.getElem?_eq_some_iff.1 hj).1
    rw [Nat.zero_add, ← Array.getElem?_toList, hops, List.getElem?_append_left hl]
    exact hj) h
  have hU : List.range ops.size = List.range' 0 init.length ++ (init.length :: List.range' (init.length + 1) rest.length) := by
    rw [hsize, List.range_eq_range', ← List.range'_succ, show init.length + 1 + rest.length = init.length + (rest.length + 1) by omega]
    have := List.range'_append (s := 0) (m := init.length) (n := rest.length + 1) (step := 1)
    simpa using this.symm
  have hlast : ops[init.length]? = some o := by
    rw [← Array.getElem?_toList, hops, List.getElem?_append_right (Nat.le_refl _)]
    simp
  have hnd : (List.range' 0 init.length ++ (init.length :: List.range' (init.length + 1) rest.length)).Nodup := by rw [← hU]; exact List.nodup_range
  rw [hU] at R0 ⊢
  refine chain_wp2 _ w s.t s.h a E hnd (fun i hi => by rw [hsize]; simp at hi; omega) R0 hch fun a1 w1 E1 hd1 hB1 R1 => ?_
  unfold handStep at hk
  cases hf : tagFree (guardsOf ops.toList) t1 o.dst with
  | false => simp only [hf] at hk; cases hk
  | true =>
    simp only [hf, Bool.not_true, cond_false] at hk
    split at hk
    · rename_i v hv
      cases hcl : V.clean v with
      | false => simp only [hcl] at hk; cases hk
      | true =>
        simp only [hcl, cond_true] at hk
        rw [wpOps_cons]
        unfold wpOp
        rw [hlast]
        have hw : Region.wanted o (yielded ops a1.tmps) = true := by simp [Region.wanted, hg]
        simp only
        rw [if_pos hw]
        refine .inl (hand_sim R1 (n := s.n + ops.size) (L' := LU s.n ops.size (List.range' (init.length + 1) rest.length)) (fun k hk => hk.1) hop hcal hf (hS.2 sf _ _ _ v hv) hcl fun x w2 hB2 R2 => ?_)
        obtain ⟨tf, hf2, hch2, hk2⟩ := opsK_chain hC (ops := ops) rest (init.length + 1) _ _ r (fun j o' hj => by
          rw [← Array.getElem?_toList, hops, List.getElem?_append_right (by omega), show init.length + 1 + j - init.length = j + 1 by omega]
          exact hj) hk
        refine chain_wp _ w2 _ _ _ E1 (List.nodup_range' (step := 1)) (fun i hi => by rw [hsize]; simp at hi; omega) R2 hch2 fun a' w' E' hd2 hB3 R3 => ?_
        refine hQ a' w' E' tf hf2 (hd2.trans ((by cases o.dst <;> rfl : (a1.put o.dst x).defers = a1.defers).trans hd1)) ((hB1.trans hB2).trans hB3) ?_ R3 hk2
        rw [chain_len' hch2, putT_len', List.length_map, chain_len' hch]
    · cases hk
theorem sort_region {callK : Nat → List V → (V → Option R) → Option R} (hC : GoodC P callK) {S : Sorts} (hS : GoodS P S) {n0 A0} {ops : Array Oper} {init : List Oper} {o : Oper} {sf : Nat} {x y : Operand} (hops : ops.toList = init ++ [o]) (hg : o.guard = none) {cl : Call} (hop : o.op = .call cl) (hcal : cl.callee = .value (.func sf)) (hargs : cl.args.toList = [x, y])
    {s : St} {kn : St → Option R} {r : R} (h : opsK P callK ops.toList (guardsOf ops.toList) s.n 0 init s (fun s1 => sortStep S (guardsOf ops.toList) o sf x y s1 kn) = some r)
    {w : World} {a : Act} {E : Emb} (R0 : RS n0 A0 (LU s.n ops.size (List.range ops.size)) (guardsOf ops.toList) s.n w s.t s.h a.tmps E) {Q : Exit → Act → World → Prop}
    (hQ : ∀ a' w' E' tf hf, a'.defers = a.defers → Below n0 w w' → tf.length = s.t.length → RS n0 A0 (LU s.n ops.size []) (guardsOf ops.toList) s.n w' tf hf a'.tmps E' → kn ⟨tf, hf, s.n⟩ = some r → Q .normal a' w') : wpOps P ops Q (List.range ops.size) a w := by
  have hsize : ops.size = init.length + 1 := by
    rw [← Array.length_toList, hops, List.length_append]; rfl
  obtain ⟨t1, h1, hch, hk⟩ := opsK_chain hC (ops := ops) init 0 s _ r (fun j o' hj => by
    have hl := (List.getElem?_eq_some_iff.1 hj).1
    rw [Nat.zero_add, ← Array.getElem?_toList, hops, List.getElem?_append_left hl]
    exact hj) h
  have hU : List.range ops.size = List.range' 0 init.length ++ [init.length] := by
    rw [hsize, List.range_succ, List.range_eq_range']
  have hlast : ops[init.length]? = some o := by
    rw [← Array.getElem?_toList, hops, List.getElem?_append_right (Nat.le_refl _)]
    simp
  rw [hU] at R0 ⊢
  have hnd : (List.range' 0 init.length ++ [init.length]).Nodup := by rw [← hU]; exact List.nodup_range
  refine chain_wp2 _ w s.t s.h a E hnd (fun i hi => by rw [hsize]; simp at hi; omega) R0 hch fun a1 w1 E1 hd1 hB1 R1 => ?_
  unfold sortStep at hk
  cases hf : tagFree (guardsOf ops.toList) t1 o.dst with
  | false => simp only [hf] at hk; cases hk
  | true =>
    simp only [hf, Bool.not_true, cond_false] at hk
    split at hk
    · rename_i kk g caps hx hy
      split at hk
      · rename_i b c dom cf hb hcf
        obtain ⟨hcond, hk⟩ := bif_some hk
        simp only [Bool.and_eq_true, Bool.not_eq_true'] at hcond
        obtain ⟨⟨⟨⟨⟨⟨hvec, hfr⟩, hsh⟩, hc0⟩, hn⟩, hfz⟩, hdom⟩ := hcond
        have hall := anyS_some hk
        rw [wpOps_cons]
        unfold wpOp
        rw [hlast]
        have hw : Region.wanted o (yielded ops a1.tmps) = true := by simp [Region.wanted, hg]
        simp only
        rw [if_pos hw]
        refine .inl (sort_sim R1 (id := s.n + init.length) (fun hL => hL.2 init.length (by simp) rfl) hop hcal hargs hf hx hy hb (hS.1 sf g _ c dom cf hcf) hdom hvec hfr (CK.beqL_eq hsh) (by rw [Nat.blt_eq] at hc0; exact hc0) (by rw [Nat.blt_eq] at hn; exact hn) hfz fun x' w2 E2 z hz1 hz2 hB2 R2 => ?_)
        have hfin := hall z ⟨hz1, hz2⟩
        refine hQ _ w2 E2 _ _ ((by cases o.dst <;> rfl : (a1.put o.dst x').defers = a1.defers).trans hd1) (hB1.trans hB2) ?_ (R2.weaken (LU_step (by omega) (by simp))) hfin
        rw [putT_len', chain_len' hch]
      · cases hk
    · cases hk
end
end Go.Vm
