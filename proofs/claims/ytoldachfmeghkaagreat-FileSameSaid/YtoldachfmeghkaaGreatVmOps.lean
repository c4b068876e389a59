import Derived.Test.YtoldachfmeghkaaGreatVmRel
import Derived.Deep.MidRow
import Derived.Deep.AppendSrc
import Derived.Laws.StructEq
import Derived.Laws.BytesString
import Derived.Laws.Slices
namespace Go.Vm
section
variable {P : Program}
theorem okT_iff {t : TypeId} : okT P t = true ↔ ∃ d, P.underlying t = some d := by
  unfold okT; rw [Option.isSome_iff_exists]
theorem info_of_ok {t : TypeId} (h : okT P t = true) : ∃ i, P.info? t = some i ∧ szOf P t = i.size := by
  obtain ⟨d, hd⟩ := okT_iff.1 h
  cases hi : P.info? t with
  | none => simp [Program.underlying, hi] at hd
  | some i => exact ⟨i, rfl, by simp [szOf, hi]⟩
theorem run_isAgg {t : TypeId} (h : okT P t = true) (w : World) : (isAgg t).run P w = .ok (aggT P t) w := by
  obtain ⟨d, hd⟩ := okT_iff.1 h
  simp only [isAgg, Sem.run_bind, run_underlying hd, Result.andThen_ok, aggT, hd]
  cases d <;> rfl
theorem run_sizeOf {t : TypeId} (h : okT P t = true) (w : World) : (sizeOf t).run P w = .ok (szOf P t) w := by
  obtain ⟨i, hi, hs⟩ := info_of_ok h
  simp [sizeOf, typeInfo, hi, hs]
theorem list_of {Q : Nat → Value → Prop} : ∀ (z : Nat), (∀ q, q < z → ∃ x, Q q x) → ∃ xs : List Value, xs.length = z ∧ ∀ q x, xs[q]? = some x → Q q x
  | 0, _ => ⟨[], rfl, fun q x h => by simp at h⟩
  | z + 1, h => by
    obtain ⟨xs, hl, hx⟩ := list_of z (fun q hq => h q (by omega))
    obtain ⟨x, hz⟩ := h z (by omega)
    refine ⟨xs ++ [x], by simp [hl], fun q y hy => ?_⟩
    rw [List.getElem?_append] at hy
    split at hy
    · exact hx q y hy
    · rename_i hq
      have hlt : q - xs.length < 1 := by
        have := (List.getElem?_eq_some_iff.1 hy).1
        simpa using this
      have e : q = z := by omega
      subst e
      simp [hl] at hy
      exact hy ▸ hz
theorem run_loadAt {t : TypeId} (hok : okT P t = true) (w : World) (r o : Nat) (xs : List Value) (hl : xs.length = szOf P t)
    (hc : ∀ (q : Nat) (x : Value), xs[q]? = some x → w.cell? ⟨r, o + q, none⟩ = some x) (h1 : aggT P t = false → ∃ x, xs = [x]) :
    (Instr.loadAt t (.pointer (some ⟨r, o, none⟩))).run P w = .ok (if aggT P t then .agg xs.toArray else xs.headD undef) w := by
  simp only [Instr.loadAt, Instr.sureAddr, Sem.run_bind, Sem.run_pure, Result.andThen_ok, loadVar, run_isAgg hok]
  cases hagg : aggT P t with
  | true =>
    have := run_loadCells_list (P := P) w ⟨r, o, none⟩ xs (fun j v hv => by rw [Addr.add_mid]; exact hc j v hv)
    simp only [if_true, Sem.run_bind, run_sizeOf hok, Result.andThen_ok, ← hl, this, Sem.run_pure]
  | false =>
    obtain ⟨x, rfl⟩ := h1 hagg
    have := hc 0 x rfl
    simp only [Nat.add_zero] at this
    simp [this]
def Rw (VR : V → Value → Prop) (cs : List V) (xs : List Value) : Prop := cs.length = xs.length ∧ ∀ (i : Nat) (v : V) (x : Value), cs[i]? = some v → xs[i]? = some x → VR v x
theorem outV_sound {w h L E A} {t : TypeId} {cs : List V} {xs : List Value} {v e fz} (hr : Rw (VRel w h L E A) cs xs) (h1 : outV P t cs = ⟨true, v, e, fz⟩) :
    VRel w h L E A v (if aggT P t then .agg xs.toArray else xs.headD undef) ∧ e = .none ∧ fz = [] ∧ (aggT P t = false → ∃ x, xs = [x]) := by
  unfold outV at h1
  cases hagg : aggT P t with
  | true =>
    simp only [hagg, cond_true, OR.val, OR.mk.injEq] at h1
    obtain ⟨_, rfl, rfl, rfl⟩ := h1
    refine ⟨?_, rfl, rfl, fun h => by cases h⟩
    simp only [if_true]
    exact .agg cs xs.toArray (by simp [hr.1]) (fun i v x hv hx => hr.2 i v x hv (by simpa using hx))
  | false =>
    simp only [hagg, cond_false] at h1
    split at h1
    · rename_i c
      simp only [OR.val, OR.mk.injEq] at h1
      obtain ⟨_, rfl, rfl, rfl⟩ := h1
      obtain ⟨hl, hc⟩ := hr
      match xs, hl with
      | [x], _ => exact ⟨by simpa using hc 0 c x rfl rfl, rfl, rfl, fun _ => ⟨x, rfl⟩⟩
    · simp [OR.fail] at h1
theorem typedL_get : ∀ (cs : List CK) (j : Nat) (row : List V), (∀ (q : Nat) (c : CK), cs[q]? = some c → ∃ v, row[j + q]? = some v ∧ Fits c v) → typedL j cs row = (row.drop j).take cs.length
  | [], j, row, _ => by simp [typedL]
  | c :: l, j, row, h => by
    obtain ⟨v, hv, hf⟩ := h 0 c rfl
    have ih := typedL_get l (j + 1) row fun q c' hq => by
      have := h (q + 1) c' (by simpa using hq)
      rwa [show j + (q + 1) = j + 1 + q by omega] at this
    have hv' : row[j]? = some v := by simpa using hv
    have hd : row.getD j .undef = v := by simp [List.getD_eq_getElem?_getD, hv']
    have hlt := (List.getElem?_eq_some_iff.1 hv').1
    rw [typedL, hd, ih, List.length_cons, List.drop_eq_getElem_cons hlt, List.take_succ_cons]
    have : row[j] = v := by rw [List.getElem?_eq_getElem hlt] at hv'; exact Option.some.inj hv'
    rw [this]
    congr 1
    cases hf <;> rfl
theorem typedL_eq {sh : List CK} {row : List V} (h : FitsL sh row) (j z : Nat) : typedL j ((sh.drop j).take z) row = (row.drop j).take z := by
  rw [typedL_get]
  · rw [List.length_take, List.length_drop, h.1]
    rw [List.take_eq_take_iff]
    simp
  · intro q c hc
    rw [List.getElem?_take] at hc
    split at hc
    · rw [List.getElem?_drop] at hc
      have hlt := (List.getElem?_eq_some_iff.1 hc).1
      have hl2 : j + q < row.length := by have := h.1; omega
      have hr : row[j + q]? = some row[j + q] := List.getElem?_eq_getElem hl2
      exact ⟨_, hr, h.2 _ c _ hc hr⟩
    · cases hc
theorem FitsL.part {sh row} (h : FitsL sh row) (j z : Nat) : FitsL ((sh.drop j).take z) ((row.drop j).take z) := by
  refine ⟨by simp [h.1], fun q c v h1 h2 => ?_⟩
  rw [List.getElem?_take] at h1 h2
  split at h1
  · rename_i hq
    rw [if_pos hq] at h2
    rw [List.getElem?_drop] at h1 h2
    exact h.2 _ c v h1 h2
  · cases h1
theorem getD_of {α : Type} {l : List α} {i : Nat} {d : α} (h : i < l.length) : l[i]? = some (l.getD i d) := by
  simp [List.getD_eq_getElem?_getD, List.getElem?_eq_getElem h]
theorem opLoad_sound {n0 A0 L w t' h a E} (S : SRel n0 A0 L w t' h a E) {t : TypeId} {va : V} {xa : Value} {v e fz}
    (hv : VRel w h L E (Ab n0 A0 w h E) va xa) (h1 : opLoad P t h va = ⟨true, v, e, fz⟩) :
    ∃ x, (Instr.loadAt t xa).run P w = .ok x w ∧ VRel w h L E (Ab n0 A0 w h E) v x ∧ e = .none ∧ fz = [] := by
  unfold opLoad at h1
  split at h1
  · rename_i k i j
    split at h1
    · rename_i b hb
      cases hok : okT P t && Nat.ble (j + szOf P t) b.sh.length && !b.isMap with
      | false => simp [hok, OR.fail] at h1
      | true =>
        simp only [hok, cond_true] at h1
        simp only [Bool.and_eq_true, Nat.ble_eq, Bool.not_eq_true'] at hok
        obtain ⟨⟨hok, hle⟩, hnm⟩ := hok
        cases hv with
        | pure hd => cases hd
        | ptr k i j x hL hx hh =>
        obtain ⟨hi, r, hm, rfl⟩ := hh b hb
        have hmem := (S.hb k b hb).memV hnm
        obtain ⟨hlen, hfit, _⟩ := S.hb k b hb
        rcases hmem with ⟨hm', _⟩ | ⟨r', cs, T, hm', hw, hcell, _⟩
        · rw [hm] at hm'; cases hm'
        · rw [hm] at hm'; cases hm'
          have hrow : b.rows[i]? = some (b.rows.getD i []) := getD_of hi
          generalize b.rows.getD i [] = row at *
          have hrl := hlen row (List.mem_of_getElem? hrow)
          have hty : typedL j ((b.sh.drop j).take (szOf P t)) row = (row.drop j).take (szOf P t) ∨ b.vec = false := by
            cases hvec : b.vec with
            | false => exact .inr rfl
            | true => exact .inl (typedL_eq (hfit hvec row (List.mem_of_getElem? hrow)) j _)
          have h2 : outV P t ((row.drop j).take (szOf P t)) = ⟨true, v, e, fz⟩ := by
            cases hvec : b.vec with
            | false => rw [hvec] at h1; exact h1
            | true => rw [hvec] at h1 hty; rw [← h1]; simp only [cond_true]; rw [hty.resolve_right (by simp)]
          obtain ⟨xs, hxl, hxs⟩ := list_of (Q := fun q x => w.cell? ⟨r, i * b.sh.length + j + q, none⟩ = some x ∧ ∀ v, row[j + q]? = some v → VRel w h L E (Ab n0 A0 w h E) v x) (szOf P t) (fun q hq => by
            have hr : row[j + q]? = some (row.getD (j + q) .undef) := getD_of (by omega)
            obtain ⟨x, hx, hv⟩ := hcell i row (j + q) _ hrow hr
            refine ⟨x, ?_, fun v' hv' => ?_⟩
            · simp only [World.cell?, hw, Nat.add_assoc] at hx ⊢; exact hx
            · rw [hr] at hv'; cases hv'
              cases hvec : b.vec with
              | true => rw [hvec] at hv; exact .pure hv
              | false => rw [hvec] at hv; exact hv)
          have hrw : Rw (VRel w h L E (Ab n0 A0 w h E)) ((row.drop j).take (szOf P t)) xs := by
            refine ⟨by simp; omega, fun q v x hv hx => ?_⟩
            rw [List.getElem?_take] at hv
            split at hv
            · rw [List.getElem?_drop] at hv; exact (hxs q x hx).2 v hv
            · cases hv
          obtain ⟨o1, o2, o3, o4⟩ := outV_sound (P := P) hrw h2
          exact ⟨_, run_loadAt hok w r _ xs hxl (fun q x hx => (hxs q x hx).1) o4, o1, o2, o3⟩
    · simp [OR.fail] at h1
  · rename_i sh row j
    cases hok : okT P t && Nat.ble (j + szOf P t) sh.length with
    | false => simp [hok, OR.fail] at h1
    | true =>
      simp only [hok, cond_true] at h1
      simp only [Bool.and_eq_true, Nat.ble_eq] at hok
      obtain ⟨hok, hle⟩ := hok
      cases hv with
      | pure hd =>
      cases hd with
      | pdat sh row j b off f hA hf hm hc =>
      rw [typedL_eq hf j _] at h1
      obtain ⟨xs, hxl, hxs⟩ := list_of (Q := fun q x => w.cell? ⟨b, off + j + q, none⟩ = some x ∧ ∀ v, row[j + q]? = some v → VRel w h L E (Ab n0 A0 w h E) v x) (szOf P t) (fun q hq => by
        have hr : row[j + q]? = some (row.getD (j + q) .undef) := getD_of (by have := hf.1; omega)
        refine ⟨f (j + q), ?_, fun v' hv' => .pure (hc _ _ hv')⟩
        rw [Nat.add_assoc]; exact hm _ _ hr)
      have hrw : Rw (VRel w h L E (Ab n0 A0 w h E)) ((row.drop j).take (szOf P t)) xs := by
        refine ⟨by simp; have := hf.1; omega, fun q v x hv hx => ?_⟩
        rw [List.getElem?_take] at hv
        split at hv
        · rw [List.getElem?_drop] at hv; exact (hxs q x hx).2 v hv
        · cases hv
      obtain ⟨o1, o2, o3, o4⟩ := outV_sound (P := P) hrw h1
      exact ⟨_, run_loadAt hok w b _ xs hxl (fun q x hx => (hxs q x hx).1) o4, o1, o2, o3⟩
  · simp [OR.fail] at h1
theorem opFieldAddr_sound {w h L E A} {s : TypeId} {va : V} {xa : Value} {f : Nat} {v e fz}
    (hv : VRel w h L E A va xa) (h1 : opFieldAddr P s h va f = ⟨true, v, e, fz⟩) :
    ∃ x, (Instr.fieldAt s xa f).run P w = .ok x w ∧ VRel w h L E A v x ∧ e = .none ∧ fz = [] := by
  unfold opFieldAddr fieldOf at h1
  split at h1
  · rename_i fl hfl
    split at hfl
    · rename_i fs hu
      cases hz : Nat.beq (szOf P fl.type) 0 || !okT P fl.type with
      | true => simp [hz, OR.fail] at h1
      | false =>
        simp only [hz, cond_false] at h1
        simp only [Bool.or_eq_false_iff, Bool.not_eq_false'] at hz
        obtain ⟨hz, hok⟩ := hz
        have hz' : ¬ szOf P fl.type = 0 := by intro e; rw [e] at hz; cases hz
        have key : ∀ r o, (Instr.fieldAt s (.pointer (some ⟨r, o, none⟩)) f).run P w = .ok (.pointer (some ⟨r, o + fl.offset, none⟩)) w := by
          intro r o
          simp only [Instr.fieldAt, Sem.run_bind, run_underlying hu, Result.andThen_ok, hfl, Instr.sureAddr, Sem.run_pure, fieldPlace, run_sizeOf hok, if_neg hz', Addr.add_mid]
        split at h1
        · rename_i k i j
          simp only [OR.if, OR.mk.injEq] at h1
          obtain ⟨hex, rfl, rfl, rfl⟩ := h1
          obtain ⟨b, hb⟩ := Option.isSome_iff_exists.1 hex
          cases hv with
          | pure hd => cases hd
          | ptr k i j x hL hx hh =>
            obtain ⟨hi, r, hm, rfl⟩ := hh b hb
            refine ⟨_, key r _, .ptr k i _ _ hL ⟨_, rfl⟩ fun b' hb' => ?_, rfl, rfl⟩
            rw [hb] at hb'; cases hb'
            exact ⟨hi, r, hm, by rw [Nat.add_assoc]⟩
        · rename_i sh row j
          simp only [OR.val, OR.mk.injEq] at h1
          obtain ⟨_, rfl, rfl, rfl⟩ := h1
          cases hv with
          | pure hd =>
          cases hd with
          | pdat sh row j b off g hA hf hm hc =>
            exact ⟨_, key b _, .pure (by rw [Nat.add_assoc]; exact .pdat sh row (j + fl.offset) b off g hA hf hm hc), rfl, rfl⟩
        · simp [OR.fail] at h1
    · cases hfl
  · simp [OR.fail] at h1
theorem inR_iff {i : Int} {n : Nat} : inR i n = true ↔ 0 ≤ i ∧ i < (n : Int) := by
  simp [inR]
theorem opIndexAddr_sound {n0 A0 L w t' h a E} (S : SRel n0 A0 L w t' h a E) {t : TypeId} {va vi : V} {xa xi : Value} {v e fz}
    (hv : VRel w h L E (Ab n0 A0 w h E) va xa) (hi : VRel w h L E (Ab n0 A0 w h E) vi xi) (h1 : opIndexAddr P t h va vi = ⟨true, v, e, fz⟩) :
    ∃ x, (Instr.indexAt t xa xi).run P w = .ok x w ∧ VRel w h L E (Ab n0 A0 w h E) v x ∧ e = .none ∧ fz = [] := by
  unfold opIndexAddr at h1
  split at h1
  · rename_i kd i
    cases hi with
    | pure hi =>
    cases hi with
    | int =>
    split at h1
    · rename_i sh rows
      cases hc : slT P t && Nat.beq (szOf P (elemT P t)) sh.length with
      | false => simp [hc, OR.fail] at h1
      | true =>
        simp only [hc, cond_true, OR.if, OR.mk.injEq] at h1
        obtain ⟨hin, rfl, rfl, rfl⟩ := h1
        rw [inR_iff] at hin
        simp only [Bool.and_eq_true] at hc
        obtain ⟨hsl, hsz⟩ := hc
        have hsz := Nat.eq_of_beq_eq_true hsz
        unfold slT at hsl
        split at hsl
        · rename_i el hu
          have he : elemT P t = el := by simp [elemT, hu]
          rw [he] at hsz
          cases hv with
          | pure hd =>
          cases hd with
          | none => simp at hin; omega
          | data sh rows b off cap f hA hcap hf hm hc =>
            have hlt : i.toNat < rows.length := by omega
            have hr := getD_of (d := ([] : List V)) hlt
            refine ⟨.pointer (some ⟨b, off + i.toNat * sh.length, none⟩), ?_, ?_, rfl, rfl⟩
            · simp only [Instr.indexAt, asIntOf, Sem.run_bind, Sem.run_pure, Result.andThen_ok, run_underlying hu]
              simp [hin, run_sizeOf hsl, hsz, Addr.add_mid]
            · refine .pure ?_
              have := DRel.pdat (w := w) (A := Ab n0 A0 w h E) sh (rows.getD i.toNat []) 0 b (off + i.toNat * sh.length) (fun j => f (i.toNat * sh.length + j)) hA (hf _ (List.mem_of_getElem? hr))
                (fun j v hj => by rw [Nat.add_assoc]; exact hm _ _ j v hr hj) (fun j v hj => hc _ _ j v hr hj)
              exact this
        · cases hsl
    · rename_i k
      split at h1
      · rename_i b hb
        cases hc : slT P t && b.vec && Nat.beq (szOf P (elemT P t)) b.sh.length with
        | false => simp [hc, OR.fail] at h1
        | true =>
          simp only [hc, cond_true, OR.if, OR.mk.injEq] at h1
          obtain ⟨hin, rfl, rfl, rfl⟩ := h1
          rw [inR_iff] at hin
          simp only [Bool.and_eq_true] at hc
          obtain ⟨⟨hsl, hvec⟩, hsz⟩ := hc
          have hsz := Nat.eq_of_beq_eq_true hsz
          unfold slT at hsl
          split at hsl
          · rename_i el hu
            have he : elemT P t = el := by simp [elemT, hu]
            rw [he] at hsz
            cases hv with
            | pure hd => cases hd
            | vs k x hL hx hh =>
              have := hh b hb
              subst this
              have hlt : i.toNat < b.rows.length := by omega
              rcases (S.hb k b hb).memV (isMap_vec hvec) with ⟨_, _, h0, _⟩ | ⟨r, cs, T, hm, hw, hcell, hhd⟩
              · rw [h0] at hlt; simp at hlt
              · obtain ⟨cap, hcap, _⟩ := hhd hvec
                refine ⟨.pointer (some ⟨r, i.toNat * b.sh.length, none⟩), ?_, .ptr k i.toNat 0 _ hL ⟨_, rfl⟩ fun b' hb' => ?_, rfl, rfl⟩
                · rw [hcap]
                  simp only [Instr.indexAt, asIntOf, Sem.run_bind, Sem.run_pure, Result.andThen_ok, run_underlying hu]
                  simp [hin, run_sizeOf hsl, hsz, Addr.add_mid]
                · rw [hb] at hb'; cases hb'
                  exact ⟨hlt, r, hm, by simp⟩
          · cases hsl
      · simp [OR.fail] at h1
    · rename_i k lo hi
      split at h1
      · rename_i b hb
        cases hc : slT P t && b.vec && Nat.beq (szOf P (elemT P t)) b.sh.length with
        | false => simp [hc, OR.fail] at h1
        | true =>
          simp only [hc, cond_true, OR.if, OR.mk.injEq] at h1
          obtain ⟨hin, rfl, rfl, rfl⟩ := h1
          rw [inR_iff] at hin
          simp only [Bool.and_eq_true] at hc
          obtain ⟨⟨hsl, hvec⟩, hsz⟩ := hc
          have hsz := Nat.eq_of_beq_eq_true hsz
          unfold slT at hsl
          split at hsl
          · rename_i el hu
            have he : elemT P t = el := by simp [elemT, hu]
            rw [he] at hsz
            cases hv with
            | pure hd => cases hd
            | sub k _ _ x hL hx hh =>
              obtain ⟨g1, g2, g3⟩ := hh b hb
              have hlt : lo + i.toNat < b.rows.length := by omega
              rcases g3 with ⟨hm', _⟩ | ⟨r', off, cap, hm', hcap, hoff, rfl⟩
              · rcases (S.hb k b hb).memV (isMap_vec hvec) with ⟨_, _, h0, _⟩ | ⟨r, cs, T, hm, _⟩
                · rw [h0] at hlt; simp at hlt
                · rw [hm] at hm'; cases hm'
              · have hoff := hoff (by omega)
                subst hoff
                refine ⟨.pointer (some ⟨r', (lo + i.toNat) * b.sh.length, none⟩), ?_, .ptr k (lo + i.toNat) 0 _ hL ⟨_, rfl⟩ fun b' hb' => ?_, rfl, rfl⟩
                · simp only [Instr.indexAt, asIntOf, Sem.run_bind, Sem.run_pure, Result.andThen_ok, run_underlying hu]
                  simp [hin, run_sizeOf hsl, hsz, Addr.add_mid, Nat.add_mul]
                · rw [hb] at hb'; cases hb'
                  exact ⟨hlt, r', hm', by simp⟩
          · cases hsl
      · simp [OR.fail] at h1
    · rename_i k r0 j
      split at h1
      · rename_i n el hu
        simp only [OR.if, OR.mk.injEq, Bool.and_eq_true] at h1
        obtain ⟨⟨⟨hex, hok⟩, hin⟩, rfl, rfl, rfl⟩ := h1
        rw [inR_iff] at hin
        obtain ⟨b, hb⟩ := Option.isSome_iff_exists.1 hex
        cases hv with
        | pure hd => cases hd
        | ptr k i' j x hL hx hh =>
          obtain ⟨hi, r, hm, rfl⟩ := hh b hb
          refine ⟨.pointer (some ⟨r, r0 * b.sh.length + j + i.toNat * szOf P el, none⟩), ?_, .ptr k r0 _ _ hL ⟨_, rfl⟩ fun b' hb' => ?_, rfl, rfl⟩
          · simp only [Instr.indexAt, asIntOf, Sem.run_bind, Sem.run_pure, Result.andThen_ok, run_underlying hu, Instr.sureAddr]
            simp [hin, run_sizeOf hok, Addr.add_mid]
          · rw [hb] at hb'; cases hb'
            exact ⟨hi, r, hm, by rw [Nat.add_assoc]⟩
      · simp [OR.fail] at h1
    · rename_i sh row j
      split at h1
      · rename_i n el hu
        simp only [OR.if, OR.mk.injEq, Bool.and_eq_true] at h1
        obtain ⟨⟨hok, hin⟩, rfl, rfl, rfl⟩ := h1
        rw [inR_iff] at hin
        cases hv with
        | pure hd =>
        cases hd with
        | pdat sh row j b off g hA hf hm hc =>
          refine ⟨.pointer (some ⟨b, off + j + i.toNat * szOf P el, none⟩), ?_, .pure (by rw [Nat.add_assoc]; exact .pdat sh row _ b off g hA hf hm hc), rfl, rfl⟩
          simp only [Instr.indexAt, asIntOf, Sem.run_bind, Sem.run_pure, Result.andThen_ok, run_underlying hu, Instr.sureAddr]
          simp [hin, run_sizeOf hok, Addr.add_mid]
      · simp [OR.fail] at h1
    · simp [OR.fail] at h1
  · simp [OR.fail] at h1
end
end Go.Vm
