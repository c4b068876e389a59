import Derived.Test.YtoldachfmeghkaaGreatVmOps5
namespace Go.Vm
section
variable {P : Program}
theorem fill_parts {VR : V → Value → Prop} (hwc : ∀ v x, V.whole v = true → VR v x → (V.cells v).length = x.cells.size ∧ ∀ (i : Nat) (u : V) (y : Value), (V.cells v)[i]? = some u → x.cells[i]? = some y → VR u y)
    (place : Nat → Option (Nat × Nat)) (z : Nat) : ∀ (ps : List (Nat × Nat × V)) (rs : List (Nat × Value)) (cs : List V) (xs : Array Value) (out : List V), ps.length = rs.length →
    (∀ (i : Nat) (p : Nat × Nat × V) (q : Nat × Value), ps[i]? = some p → rs[i]? = some q → place q.1 = some (p.1, p.2.1) ∧ VR p.2.2 q.2) → cs.length = z → xs.size = z →
    (∀ (i : Nat) (u : V) (y : Value), cs[i]? = some u → xs[i]? = some y → VR u y) → fillParts z cs ps = some out →
    ∃ ys, Instr.fill place xs rs = some ys ∧ out.length = ys.size ∧ ∀ (i : Nat) (u : V) (y : Value), out[i]? = some u → ys[i]? = some y → VR u y
  | [], [], cs, xs, out, _, _, h1, h2, h3, h => by
    simp only [fillParts, Option.some.injEq] at h
    subst h
    exact ⟨xs, rfl, by omega, h3⟩
  | (off, w, v) :: r, (n, x) :: s, cs, xs, out, hl, hp, h1, h2, h3, h => by
    obtain ⟨hpl, hv⟩ := hp 0 (off, w, v) (n, x) rfl rfl
    replace hpl : place n = some (off, w) := hpl
    replace hv : VR v x := hv
    simp only [fillParts] at h
    cases hc : V.whole v && Nat.beq (V.cells v).length w && Nat.ble (off + w) z with
    | false => rw [hc] at h; cases h
    | true =>
      rw [hc] at h
      simp only [cond_true] at h
      simp only [Bool.and_eq_true, Nat.ble_eq] at hc
      obtain ⟨⟨hw, hlen⟩, hle⟩ := hc
      have hlen := Nat.eq_of_beq_eq_true hlen
      obtain ⟨c1, c2⟩ := hwc v x hw hv
      rw [fill_cons place xs n x s hpl (by omega) (by omega)]
      refine fill_parts hwc place z r s (setCells cs off (V.cells v)) (wrCells xs off x.cells.toList) out (by simpa using hl) (fun i p q hp1 hq1 => hp (i + 1) p q (by simpa using hp1) (by simpa using hq1)) (by rw [setCells_length]; exact h1) (by rw [wrCells_size]; exact h2) (fun i u y hu hy => ?_) h
      rw [setCells_get _ _ _ _ (by omega)] at hu
      rw [wrCells_get _ _ _ _ (by simp; omega)] at hy
      by_cases hi : off ≤ i ∧ i < off + (V.cells v).length
      · rw [if_pos hi] at hu
        rw [if_pos (by simp; omega)] at hy
        exact c2 _ u y hu (by simpa using hy)
      · rw [if_neg hi] at hu
        rw [if_neg (by simp; omega)] at hy
        exact h3 i u y hu hy
theorem run_mapM_list {α β : Type} (f : α → Sem β) (g : α → β) (w : World) : ∀ (l : List α), (∀ x ∈ l, (f x).run P w = .ok (g x) w) → (l.mapM f).run P w = .ok (l.map g) w
  | [], _ => by simp
  | x :: l, h => by
    have ih := run_mapM_list f g w l (fun y hy => h y (List.mem_cons_of_mem _ hy))
    simp [List.mapM_cons, h x (by simp), ih]
theorem opBuild_ok {n0 A0 L w t h a E} (S : SRel n0 A0 L w t h a E) {id : Nat} {ty : TypeId} {parts : List (Nat × V)} {rparts : Array (Nat × Value)} (hl : parts.length = rparts.size)
    (hp : ∀ (i : Nat) (p : Nat × V) (q : Nat × Value), parts[i]? = some p → rparts[i]? = some q → p.1 = q.1 ∧ VRel w h L E (Ab n0 A0 w h E) p.2 q.2) {v e fz} (h1 : opBuild P ty parts = ⟨true, v, e, fz⟩) :
    OpOK P n0 A0 L w t h a id v e fz ((Instr.build ty rparts).run P w) := by
  refine OpOK.quiet S ?_
  unfold opBuild at h1
  split at h1
  · rename_i fs hu
    simp only at h1
    split at h1
    · rename_i cs hf
      cases hc : parts.all (fun p => Nat.blt p.1 (placesOf P fs.toList).length) && zeroOK P ty && fs.toList.all (fun f => okT P f.type) with
      | false => rw [hc] at h1; simp [OR.fail] at h1
      | true =>
        rw [hc] at h1
        simp only [cond_true, OR.val, OR.mk.injEq] at h1
        obtain ⟨_, rfl, rfl, rfl⟩ := h1
        simp only [Bool.and_eq_true] at hc
        obtain ⟨⟨hk, hz⟩, hok⟩ := hc
        obtain ⟨_, z, hzr, hzi, hz1, hz2, hz3, hzz⟩ := zeroOK_rel hz
        have hmap : ((fs.mapM fun f => do pure (f.offset, ← sizeOf f.type) : Sem (Array (Nat × Nat)))).run P w = .ok (placesOf P fs.toList).toArray w := by
          obtain ⟨l⟩ := fs
          have := run_mapM_list (P := P) (fun f : Field => (do pure (f.offset, ← sizeOf f.type) : Sem (Nat × Nat))) (fun f => (f.offset, szOf P f.type)) w l (fun f hf => by
            have := List.all_eq_true.1 hok f hf
            simp [run_sizeOf this])
          simp only [List.mapM_toArray, Sem.run_map, this, Result.andThen_ok, placesOf]
        obtain ⟨ys, hy1, hy2, hy3⟩ := fill_parts (VR := VRel w h L E (Ab n0 A0 w h E)) (fun v x hw hv => whole_cells hw hv) (fun i => (placesOf P fs.toList).toArray[i]?) (szOf P ty) _ rparts.toList (zeroV P ty) z.cells cs (by simp [hl]) (fun i p q hp1 hq1 => by
          rw [List.getElem?_map] at hp1
          obtain ⟨⟨n, u⟩, hn, rfl⟩ := Option.map_eq_some_iff.1 hp1
          obtain ⟨e1, e2⟩ := hp i (n, u) q hn (by simpa using hq1)
          simp only at e1 e2
          have hlt : n < (placesOf P fs.toList).length := by
            have := List.all_eq_true.1 hk (n, u) (List.mem_of_getElem? hn)
            simpa [Nat.blt_eq] using this
          rw [← e1]
          simp only [List.getElem?_toArray, List.getElem?_eq_getElem hlt]
          exact ⟨trivial, e2⟩) hz2 hz1 (hzz _ _ _ _ _) hf
        refine ⟨.agg ys, ?_, .agg _ _ hy2 hy3, rfl, rfl⟩
        simp only [Instr.build, Sem.run_bind, hzr, Result.andThen_ok, run_underlying hu, hmap]
        simp only [hy1]
        rfl
    · simp [OR.fail] at h1
  · rename_i n el hu
    split at h1
    · rename_i cs hf
      cases hc : zeroOK P ty && okT P el with
      | false => rw [hc] at h1; simp [OR.fail] at h1
      | true =>
        rw [hc] at h1
        simp only [cond_true, OR.val, OR.mk.injEq] at h1
        obtain ⟨_, rfl, rfl, rfl⟩ := h1
        simp only [Bool.and_eq_true] at hc
        obtain ⟨hz, hok⟩ := hc
        obtain ⟨_, z, hzr, hzi, hz1, hz2, hz3, hzz⟩ := zeroOK_rel hz
        obtain ⟨ys, hy1, hy2, hy3⟩ := fill_parts (VR := VRel w h L E (Ab n0 A0 w h E)) (fun v x hw hv => whole_cells hw hv) (fun i => some (i * szOf P el, szOf P el)) (szOf P ty) _ rparts.toList (zeroV P ty) z.cells cs (by simp [hl]) (fun i p q hp1 hq1 => by
          rw [List.getElem?_map] at hp1
          obtain ⟨⟨n, u⟩, hn, rfl⟩ := Option.map_eq_some_iff.1 hp1
          obtain ⟨e1, e2⟩ := hp i (n, u) q hn (by simpa using hq1)
          simp only at e1 e2
          rw [← e1]
          exact ⟨rfl, e2⟩) hz2 hz1 (hzz _ _ _ _ _) hf
        refine ⟨.agg ys, ?_, .agg _ _ hy2 hy3, rfl, rfl⟩
        simp only [Instr.build, Sem.run_bind, hzr, Result.andThen_ok, run_underlying hu, run_sizeOf hok]
        simp only [hy1]
        rfl
    · simp [OR.fail] at h1
  · simp [OR.fail] at h1
theorem optInt_rel {w h L E A} {o : Option V} {x : Option Value} {d n : Int} (hr : (o = none ∧ x = none) ∨ ∃ v y, o = some v ∧ x = some y ∧ VRel w h L E A v y) (h1 : optInt o d = some n) : (x = none ∧ n = d) ∨ ∃ k, x = some (.int k n) := by
  rcases hr with ⟨rfl, rfl⟩ | ⟨v, y, rfl, rfl, hv⟩
  · simp only [optInt, Option.some.injEq] at h1
    exact .inl ⟨rfl, h1.symm⟩
  · cases v <;> simp only [optInt] at h1 <;> try (cases h1)
    cases hv with | pure hv => cases hv with | int => exact .inr ⟨_, rfl⟩
theorem run_sliceBounds (b : Bool) (len cap : Nat) {lo hi : Option Value} {l u : Int} (hlo : (lo = none ∧ l = 0) ∨ ∃ k, lo = some (.int k l)) (hhi : (hi = none ∧ u = len) ∨ ∃ k, hi = some (.int k u)) (h0 : 0 ≤ l) (h1 : l ≤ u) (h2 : u ≤ len) (hc : len ≤ cap) (w : World) :
    (Instr.sliceBounds b len cap lo hi none).run P w = .ok (l.toNat, u.toNat, cap) w := by
  have e1 : (0 : Int) ≤ u := by omega
  have e2 : u ≤ (cap : Int) := by omega
  have e3 : l ≤ ((u.toNat : Nat) : Int) := by omega
  rcases hhi with ⟨rfl, rfl⟩ | ⟨k, rfl⟩
  · rcases hlo with ⟨rfl, rfl⟩ | ⟨k', rfl⟩
    · simp [Instr.sliceBounds]
    · simp [Instr.sliceBounds, run_sliceBound, h0, h2, h1]
  · rcases hlo with ⟨rfl, rfl⟩ | ⟨k', rfl⟩
    · simp [Instr.sliceBounds, run_sliceBound, e1, e2]
    · have r1 := run_sliceBound (P := P) w k' l u.toNat .sliceB h0 e3
      have r2 := run_sliceBound (P := P) w k u cap (if b then .sliceAcap else .sliceAlen) e1 e2
      simp [Instr.sliceBounds, r2, r1]
theorem DRel.slice {w A} {sh : List CK} {rows : List (List V)} {l u : Nat} (hlu : l ≤ u) (hu : u ≤ rows.length) {x : Value} (hd : DRel w A (.data sh rows) x) :
    ∃ a len cap, x = .slice a len cap ∧ len = rows.length ∧ len ≤ cap ∧ DRel w A (.data sh ((rows.take u).drop l)) (.slice (if cap = l then a else a.map (·.add (l * sh.length))) (u - l) (cap - l)) := by
  cases hd with
  | none _ a cap =>
    have e1 : u = 0 := by simpa using hu
    have e2 : l = 0 := by omega
    subst e1; subst e2
    exact ⟨a, 0, cap, rfl, rfl, Nat.zero_le _, .none _ _ _⟩
  | data _ _ b off cap f hA hcap hf hm hc =>
    refine ⟨_, _, cap, rfl, rfl, hcap, ?_⟩
    have hlen : ((rows.take u).drop l).length = u - l := by simp; omega
    have hget : ∀ (i : Nat) (r : List V), ((rows.take u).drop l)[i]? = some r → rows[l + i]? = some r := by
      intro i r h
      rw [List.getElem?_drop, List.getElem?_take] at h
      split at h
      · exact h
      · cases h
    by_cases hcl : cap = l
    · have e0 : (rows.take u).drop l = [] := by apply List.length_eq_zero_iff.1; omega
      rw [if_pos hcl]
      have := DRel.data (w := w) (A := A) sh ((rows.take u).drop l) b off (cap - l) f hA (by omega) (fun r hr => by rw [e0] at hr; cases hr) (fun i r j v h => by rw [e0] at h; simp at h) (fun i r j v h => by rw [e0] at h; simp at h)
      rw [hlen] at this
      exact this
    · rw [if_neg hcl]
      simp only [Option.map_some, Addr.add_mid]
      have := DRel.data (w := w) (A := A) sh ((rows.take u).drop l) b (off + l * sh.length) (cap - l) (fun q => f (l * sh.length + q)) hA (by omega) (fun r hr => hf r (List.mem_of_mem_take (List.mem_of_mem_drop hr)))
        (fun i r j v h1 h2 => by
          have := hm (l + i) r j v (hget i r h1) h2
          rw [Nat.add_mul] at this
          rw [show off + l * sh.length + (i * sh.length + j) = off + (l * sh.length + i * sh.length + j) by omega, show l * sh.length + (i * sh.length + j) = l * sh.length + i * sh.length + j by omega]
          exact this)
        (fun i r j v h1 h2 => by
          have := hc (l + i) r j v (hget i r h1) h2
          rw [Nat.add_mul] at this
          rw [show l * sh.length + (i * sh.length + j) = l * sh.length + i * sh.length + j by omega]
          exact this)
      rw [hlen] at this
      exact this
theorem opSlice_ok {n0 A0 L w t h a E} (S : SRel n0 A0 L w t h a E) {id : Nat} {ty : TypeId} {vx : V} {xx : Value} (hx : VRel w h L E (Ab n0 A0 w h E) vx xx) {lo hi mx : Option V} {xlo xhi xmx : Option Value}
    (hlo : (lo = none ∧ xlo = none) ∨ ∃ v y, lo = some v ∧ xlo = some y ∧ VRel w h L E (Ab n0 A0 w h E) v y) (hhi : (hi = none ∧ xhi = none) ∨ ∃ v y, hi = some v ∧ xhi = some y ∧ VRel w h L E (Ab n0 A0 w h E) v y) (hmx : mx.isNone = xmx.isNone)
    {v e fz} (h1 : opSlice P ty h vx lo hi mx = ⟨true, v, e, fz⟩) : OpOK P n0 A0 L w t h a id v e fz ((Instr.sliceAt ty xx xlo xhi xmx).run P w) := by
  unfold opSlice at h1
  split at h1
  · simp [OR.fail] at h1
  · have hmn : xmx = none := by simpa using hmx.symm
    subst hmn
    split at h1
    · rename_i el sh rows hu
      cases hc : !(Nat.beq sh.length (szOf P el) && okT P el) with
      | true => rw [hc] at h1; simp [OR.fail] at h1
      | false =>
        rw [hc] at h1
        simp only [Bool.not_eq_false', Bool.and_eq_true] at hc
        obtain ⟨hsz, hok⟩ := hc
        have hsz := Nat.eq_of_beq_eq_true hsz
        simp only [cond_false] at h1
        split at h1
        · rename_i l u hl1 hu1
          simp only [OR.if, OR.mk.injEq, Bool.and_eq_true, decide_eq_true_eq] at h1
          obtain ⟨⟨⟨h0, hlu⟩, hur⟩, rfl, rfl, rfl⟩ := h1
          refine OpOK.quiet S ?_
          cases hx with | pure hd =>
          obtain ⟨aa, len, cap, rfl, hlen, hcap, hd'⟩ := hd.slice (l := l.toNat) (u := u.toNat) (by omega) (by omega)
          subst hlen
          have hb := run_sliceBounds (P := P) true rows.length cap (optInt_rel hlo hl1) (optInt_rel hhi hu1) h0 hlu hur hcap w
          refine ⟨_, ?_, .pure hd', rfl, rfl⟩
          simp only [Instr.sliceAt, Sem.run_bind, run_underlying hu, Result.andThen_ok, Instr.slice, hb, run_sizeOf hok, Sem.run_pure, hsz]
        · simp [OR.fail] at h1
    · rename_i el k hu
      split at h1
      · rename_i b hb
        cases hc : !(Nat.beq b.sh.length (szOf P el) && okT P el) with
        | true => rw [hc] at h1; simp [OR.fail] at h1
        | false =>
          rw [hc] at h1
          simp only [Bool.not_eq_false', Bool.and_eq_true] at hc
          obtain ⟨hsz, hok⟩ := hc
          have hsz := Nat.eq_of_beq_eq_true hsz
          simp only [cond_false] at h1
          split at h1
          · rename_i l u hl1 hu1
            simp only [OR.if, OR.mk.injEq, Bool.and_eq_true, decide_eq_true_eq] at h1
            obtain ⟨⟨⟨⟨h0, hlu⟩, hur⟩, hvec⟩, rfl, rfl, rfl⟩ := h1
            refine OpOK.quiet S ?_
            cases hx with
            | pure hd => cases hd
            | vs _ _ hL hx2 hh =>
              have := hh b hb
              subst this
              rcases (S.hb k b hb).memV (isMap_vec hvec) with ⟨hm, _, hr0, hh0⟩ | ⟨r, cs, T, hm, hw, hcell, hhd⟩
              · rw [hr0] at hur hu1
                rw [hh0]
                have hb' := run_sliceBounds (P := P) true 0 0 (optInt_rel hlo hl1) (optInt_rel hhi hu1) h0 hlu hur (Nat.le_refl _) w
                have e1 : l = 0 := by simp at hur; omega
                have e2 : u = 0 := by simp at hur; omega
                subst e1; subst e2
                refine ⟨.slice none 0 0, ?_, .sub k 0 0 _ hL ⟨_, _, _, rfl⟩ fun b' hb' => ?_, rfl, rfl⟩
                · simp only [Instr.sliceAt, Sem.run_bind, run_underlying hu, Result.andThen_ok, Instr.slice, hb', run_sizeOf hok, Sem.run_pure]
                  rfl
                · exact ⟨Nat.le_refl _, Nat.zero_le _, .inl ⟨hm, rfl⟩⟩
              · obtain ⟨cap, hcap, hle, _⟩ := hhd hvec
                rw [hcap]
                have hb' := run_sliceBounds (P := P) true b.rows.length cap (optInt_rel hlo hl1) (optInt_rel hhi hu1) h0 hlu hur hle w
                refine ⟨.slice (some ⟨r, if cap = l.toNat then 0 else l.toNat * b.sh.length, none⟩) (u.toNat - l.toNat) (cap - l.toNat), ?_, .sub k _ _ _ hL ⟨_, _, _, rfl⟩ fun b' hb' => ?_, rfl, rfl⟩
                · simp only [Instr.sliceAt, Sem.run_bind, run_underlying hu, Result.andThen_ok, Instr.slice, hb', run_sizeOf hok, Sem.run_pure, hsz]
                  by_cases hcl : cap = l.toNat <;> simp [hcl, Addr.add_mid]
                · rw [hb] at hb'; cases hb'
                  exact ⟨by omega, by omega, .inr ⟨r, _, _, hm, by omega, fun hlt => by rw [if_neg (by omega)], rfl⟩⟩
          · simp [OR.fail] at h1
      · simp [OR.fail] at h1
    · rename_i el k sl su hu
      split at h1
      · rename_i b hb
        cases hc : !(Nat.beq b.sh.length (szOf P el) && okT P el) with
        | true => rw [hc] at h1; simp [OR.fail] at h1
        | false =>
          rw [hc] at h1
          simp only [Bool.not_eq_false', Bool.and_eq_true] at hc
          obtain ⟨hsz, hok⟩ := hc
          have hsz := Nat.eq_of_beq_eq_true hsz
          simp only [cond_false] at h1
          split at h1
          · rename_i l u hl1 hu1
            simp only [OR.if, OR.mk.injEq, Bool.and_eq_true, decide_eq_true_eq] at h1
            obtain ⟨⟨⟨⟨h0, hlu⟩, hur⟩, hvec⟩, rfl, rfl, rfl⟩ := h1
            refine OpOK.quiet S ?_
            cases hx with
            | pure hd => cases hd
            | sub _ _ _ _ hL hx2 hh =>
              obtain ⟨g1, g2, ⟨gm, rfl⟩ | ⟨r, off, cap, gm, hcap, hoff, rfl⟩⟩ := hh b hb
              · have h00 : b.rows.length = 0 := by
                  rcases (S.hb k b hb).memV (isMap_vec hvec) with ⟨_, _, h0, _⟩ | ⟨r, cs, T, hm, _⟩
                  · rw [h0]; rfl
                  · rw [hm] at gm; cases gm
                have e0 : su - sl = 0 := by omega
                rw [e0] at hur hu1
                have hb' := run_sliceBounds (P := P) true 0 0 (optInt_rel hlo hl1) (optInt_rel hhi hu1) h0 hlu hur (Nat.le_refl _) w
                have e1 : l = 0 := by simp at hur; omega
                have e2 : u = 0 := by simp at hur; omega
                subst e1; subst e2
                refine ⟨.slice none 0 0, ?_, .sub k _ _ _ hL ⟨_, _, _, rfl⟩ fun b' hb' => ?_, rfl, rfl⟩
                · simp only [Instr.sliceAt, Sem.run_bind, run_underlying hu, Result.andThen_ok, Instr.slice, hb', run_sizeOf hok, Sem.run_pure]
                  rfl
                · rw [hb] at hb'; cases hb'
                  exact ⟨Nat.le_refl _, by simp; omega, .inl ⟨gm, rfl⟩⟩
              · have hb' := run_sliceBounds (P := P) true (su - sl) cap (optInt_rel hlo hl1) (optInt_rel hhi hu1) h0 hlu hur hcap w
                refine ⟨.slice (some ⟨r, if cap = l.toNat then off else off + l.toNat * b.sh.length, none⟩) (u.toNat - l.toNat) (cap - l.toNat), ?_, .sub k _ _ _ hL ⟨_, _, _, rfl⟩ fun b' hb' => ?_, rfl, rfl⟩
                · simp only [Instr.sliceAt, Sem.run_bind, run_underlying hu, Result.andThen_ok, Instr.slice, hb', run_sizeOf hok, Sem.run_pure, hsz]
                  by_cases hcl : cap = l.toNat <;> simp [hcl, Addr.add_mid]
                · rw [hb] at hb'; cases hb'
                  refine ⟨by omega, by omega, .inr ⟨r, _, cap - l.toNat, gm, by omega, fun hlt => ?_, by rw [show sl + u.toNat - (sl + l.toNat) = u.toNat - l.toNat by omega]⟩⟩
                  rw [if_neg (by omega), hoff (by omega), Nat.add_mul]
          · simp [OR.fail] at h1
      · simp [OR.fail] at h1
    · rename_i s hu
      split at h1
      · rename_i l u hl1 hu1
        simp only [OR.if, OR.mk.injEq, Bool.and_eq_true, decide_eq_true_eq] at h1
        obtain ⟨⟨⟨h0, hlu⟩, hur⟩, rfl, rfl, rfl⟩ := h1
        refine OpOK.quiet S ?_
        cases hx with | pure hd => cases hd with | str =>
        have hb := run_sliceBounds (P := P) false s.size s.size (optInt_rel hlo hl1) (optInt_rel hhi hu1) h0 hlu hur (Nat.le_refl _) w
        refine ⟨_, ?_, .pure (.str _), rfl, rfl⟩
        simp [Instr.sliceAt, run_underlying hu, Instr.slice, hb]
      · simp [OR.fail] at h1
    · simp [OR.fail] at h1
theorem foldl_push : ∀ (l : List Int) (r : ByteArray), l.foldl (fun r n => r.push (UInt8.ofNat n.toNat)) r = ⟨r.data ++ (l.map fun n => UInt8.ofNat n.toNat).toArray⟩
  | [], r => by simp
  | x :: l, r => by
    rw [List.foldl_cons, foldl_push l]
    simp [ByteArray.push]
theorem opConvert_ok {n0 A0 L w t h a E} (S : SRel n0 A0 L w t h a E) {id : Nat} {src dst : TypeId} {vx : V} {xx : Value} (hx : VRel w h L E (Ab n0 A0 w h E) vx xx)
    {v e fz} (h1 : opConvert P src dst h vx = ⟨true, v, e, fz⟩) : OpOK P n0 A0 L w t h a id v e fz ((convert src dst xx).run P w) := by
  refine OpOK.quiet S ?_
  unfold opConvert at h1
  split at h1
  · rename_i k0 k hs hd
    split at h1
    · simp only [OR.val, OR.mk.injEq] at h1
      obtain ⟨_, rfl, rfl, rfl⟩ := h1
      cases hx with | pure hx => cases hx with | int =>
      exact ⟨_, by simp [convert, run_underlying hs, run_underlying hd, Conv.intToInt], .pure (.int _ _), rfl, rfl⟩
    · simp [OR.fail] at h1
  · rename_i el hs hd
    split at h1
    · rename_i he
      split at h1
      · rename_i rows hp
        simp only [OR.val, OR.mk.injEq] at h1
        obtain ⟨_, rfl, rfl, rfl⟩ := h1
        have hdd := toPure_all S hx
        rw [hp] at hdd
        refine ⟨_, ?_, .pure (.str _), rfl, rfl⟩
        cases hdd with
        | none _ a cap =>
          rw [run_convert_bytes_string w src dst el a 0 cap hs he hd]
          cases a with
          | none => simp [Conv.bytesToString, bytesOfRows]; rfl
          | some a =>
            have hld := run_loadCells_list (P := P) w a ([] : List Value) (fun j v hj => by simp at hj)
            rw [show (0 : Nat) = ([] : List Value).length from rfl]
            first | (rw [run_bytesToString (ns := []) w _ _ _ hld]; rfl) | (have := run_bytesToString (P := P) w _ [] _ _ (by simpa using hld); simpa [bytesOfRows] using this) | (simp [Conv.bytesToString, hld, bytesOfRows]; rfl)
        | data _ _ b off cap f hA hcap hf hm hc =>
          rw [run_convert_bytes_string w src dst el _ _ _ hs he hd]
          have hrow : ∀ r ∈ rows, ∃ n, r = [.int .u8 n] := by
            intro r hr
            have h2 := hf r hr
            have hl : r.length = 1 := h2.1.symm
            match r, hl with
            | [u], _ =>
              have := h2.2 0 (.int .u8) u rfl rfl
              cases this
              exact ⟨_, rfl⟩
          have hld := run_loadCells_list (P := P) w ⟨b, off, none⟩ ((rows.map fun r => (r.headD .undef).toInt).map (Value.int .u8)) (fun j v hj => by
            rw [List.map_map, List.getElem?_map] at hj
            obtain ⟨r, hr, rfl⟩ := Option.map_eq_some_iff.1 hj
            obtain ⟨n, rfl⟩ := hrow r (List.mem_of_getElem? hr)
            have h1 := hm j _ 0 _ hr rfl
            have h2 := hc j _ 0 _ hr rfl
            simp only [List.length_cons, List.length_nil, Nat.zero_add, Nat.mul_one, Nat.add_zero] at h1 h2
            rw [Addr.add_mid, h1]
            generalize f j = y at h2
            cases h2
            rfl)
          rw [List.length_map, List.length_map] at hld
          rw [run_bytesToString w _ _ _ _ hld]
          congr 2
          rw [foldl_push]
          have e0 : ByteArray.empty.data = #[] := rfl
          simp only [bytesOfRows, List.map_map, e0, Array.empty_append]
          rfl
      · simp [OR.fail] at h1
    · simp [OR.fail] at h1
  · simp [OR.fail] at h1
end
end Go.Vm
