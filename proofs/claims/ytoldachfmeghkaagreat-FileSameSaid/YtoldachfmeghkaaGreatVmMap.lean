import Derived.Test.YtoldachfmeghkaaGreatVmOps7
import Derived.MapKept
set_option linter.unusedVariables false
set_option linter.unusedSimpArgs false
namespace Go.Vm
section
variable {P : Program}
theorem eqs_bits {w A x y xx yy} (hx : DRel w A x xx) (hy : DRel w A y yy) (h : V.eqs x y = true) (n : Nat) : Instr.sameBits n xx yy = true := by
  cases x <;> cases y <;> simp only [V.eqs, Bool.false_eq_true] at h
  · rename_i k a k' b
    simp only [Bool.and_eq_true, beq_iff_eq] at h
    cases hx; cases hy
    have := beqK_eq h.1
    have h2 := h.2
    subst this; subst h2
    cases n <;> simp [Instr.sameBits]
  · cases hx; cases hy
    cases n <;> simpa [Instr.sameBits] using h
  · rename_i a b
    cases hx; cases hy
    rw [← beq_toListBytes] at h
    cases n <;> simpa [Instr.sameBits] using h
theorem eqsL_get : ∀ {l r : List V}, V.eqsL l r = true → l.length = r.length ∧ ∀ (i : Nat) (a b : V), l[i]? = some a → r[i]? = some b → V.eqs a b = true
  | [], [], _ => ⟨rfl, fun i a b h => by simp at h⟩
  | [], _ :: _, h => by simp [V.eqsL] at h
  | _ :: _, [], h => by simp [V.eqsL] at h
  | a :: l, b :: r, h => by
    simp only [V.eqsL, Bool.and_eq_true] at h
    have ih := eqsL_get h.2
    refine ⟨by simp [ih.1], fun i x y h1 h2 => ?_⟩
    cases i with
    | zero => simp only [List.getElem?_cons_zero, Option.some.injEq] at h1 h2; subst h1; subst h2; exact h.1
    | succ i => exact ih.2 i x y (by simpa using h1) (by simpa using h2)
theorem eqv_bits {w A x y xx yy} (hx : DRel w A x xx) (hy : DRel w A y yy) (h : V.eqv x y = true) : Instr.sameBits 10000 xx yy = true := by
  by_cases ha : (∃ l, x = .agg l) ∧ ∃ r, y = .agg r
  · obtain ⟨⟨l, rfl⟩, r, rfl⟩ := ha
    cases hx with | agg _ xs hl hc =>
    cases hy with | agg _ ys hl' hc' =>
    simp only [V.eqv] at h
    obtain ⟨h1, h2⟩ := eqsL_get h
    show (xs.size == ys.size && (xs.toList.zip ys.toList).all fun (x, y) => Instr.sameBits 9999 x y) = true
    simp only [Bool.and_eq_true, beq_iff_eq]
    refine ⟨by omega, List.all_eq_true.2 fun p hp => ?_⟩
    obtain ⟨i, hi⟩ := List.mem_iff_getElem?.1 hp
    rw [List.getElem?_zip_eq_some] at hi
    obtain ⟨e1, e2⟩ := hi
    have hx1 : xs[i]? = some p.1 := by simpa using e1
    have hy1 : ys[i]? = some p.2 := by simpa using e2
    have l1 := (Array.getElem?_eq_some_iff.1 hx1).1
    have g1 := getD_of (d := V.undef) (l := l) (i := i) (by omega)
    have g2 := getD_of (d := V.undef) (l := r) (i := i) (by omega)
    exact eqs_bits (hc i _ _ g1 hx1) (hc' i _ _ g2 hy1) (h2 i _ _ g1 g2) 9999
  · have : V.eqs x y = true := by
      cases x <;> cases y <;> first | exact h | (exact absurd ⟨⟨_, rfl⟩, _, rfl⟩ ha) | (simp [V.eqv, V.eqs] at h)
    exact eqs_bits hx hy this 10000
theorem checkKey_ok {w : World} {A : Nat → Prop} {h : Heap} {L : Nat → Prop} {E : Emb} (em : Bool) : ∀ (n d : Nat), n ≤ d → ∀ (t : TypeId) (x y : V) (xx : Value) (b : Bool), VRel w h L E A x xx → eqT P n t x y = some b →
    (Instr.checkKey em d t xx).run P w = .ok () w
  | 0, _, _, t, x, y, xx, b, _, hb => by simp [eqT] at hb
  | n + 1, 0, hle, _, _, _, _, _, _, _ => by omega
  | n + 1, d + 1, hle, t, x, y, xx, b, hx, hb => by
    simp only [eqT] at hb
    split at hb
    · rename_i q k a k' c hu
      cases hx with | pure hx => cases hx with | int =>
      simp [Instr.checkKey, run_underlying hu, Result.andThen]
    · rename_i a c hu
      cases hx with | pure hx => cases hx with | bool =>
      simp [Instr.checkKey, run_underlying hu, Result.andThen]
    · rename_i a c hu
      cases hx with | pure hx => cases hx with | str =>
      simp [Instr.checkKey, run_underlying hu, Result.andThen]
    · rename_i fs xs ys hu
      cases hp : P.stoodInHeld t with
      | true => simp [hp] at hb
      | false =>
        simp only [hp, cond_false] at hb
        obtain ⟨axs, rfl, hx1, hx2⟩ := aggR hx
        simp only [Instr.checkKey, Sem.run_bind, run_underlying hu, Result.andThen_ok]
        rw [← Array.forIn_toList]
        have key : ∀ (l : List Field) (b : Bool), eqFs P (eqT P n) xs ys l = some b → (forIn (m := Sem) l PUnit.unit fun f r => (do
            if f.name ≠ "_" then
              Instr.checkKey em d f.type (← Go.part f.type axs f.offset)
              pure (ForInStep.yield PUnit.unit)
            else pure (ForInStep.yield PUnit.unit) : Sem (ForInStep PUnit))).run P w = .ok PUnit.unit w := by
          intro l
          induction l with
          | nil => intro b _; simp
          | cons f r ih =>
            intro b hh
            simp only [eqFs] at hh
            cases hn : (f.name == "_") with
            | true => simp [hn] at hh
            | false =>
              simp only [hn, cond_false] at hh
              split at hh
              · rename_i a c ha hc
                split at hh
                · rename_i p q hp hq
                  obtain ⟨xa, hra, hva⟩ := partV_sound (w := w) hx1 hx2 (fun cs xs hl hc => VRel.agg (h := h) (L := L) (E := E) (A := A) cs xs hl hc) ha
                  have e1 := checkKey_ok em n d (by omega) _ _ _ _ _ hva hp
                  have hne : f.name ≠ "_" := by simpa using hn
                  simp only [List.forIn_cons, hne, ne_eq, not_false_eq_true, if_true, Sem.run_bind, hra, Result.andThen_ok, e1, Sem.run_pure]
                  exact ih q hq
                · cases hh
              · cases hh
        rw [key fs.toList b hb]
        rfl
    · cases hb
theorem beqK_refl (k : IntKind) : beqK k k = true := by cases k <;> rfl
theorem sameNow_eqv {w : World} {A A' : Nat → Prop} {h : Heap} {L : Nat → Prop} {E : Emb} {kt : TypeId} {key kv : V} {xx yy : Value} {q b : Bool} {d : TypeDesc} (hx : VRel w h L E A key xx) (hy : DRel w A' kv yy) (he : eqT P 8 kt key kv = some q)
    (hs : Instr.sameNow d xx yy = some b) : b = V.eqv key kv := by
  simp only [eqT] at he
  split at he
  · rename_i k0 k a k' c hu
    cases hx with | pure hx => cases hx with | int =>
    cases hy with | int =>
    cases d <;> simp [Instr.sameNow] at hs
    obtain ⟨e, rfl⟩ := hs
    subst e
    simp [V.eqv, V.eqs, beqK_refl]
  · cases hx with | pure hx => cases hx with | bool =>
    cases hy with | bool =>
    cases d <;> simp [Instr.sameNow] at hs
    rw [← hs]; simp [V.eqv, V.eqs]
  · rename_i a c hu
    cases hx with | pure hx => cases hx with | str =>
    cases hy with | str =>
    cases d <;> simp [Instr.sameNow] at hs
    rw [← hs]; simp only [V.eqv, V.eqs, ← beq_toListBytes]
  · obtain ⟨axs, rfl, _⟩ := aggR hx
    cases hy with | agg =>
    cases d <;> simp [Instr.sameNow] at hs
  · cases he
def EntL (w : World) (A : Nat → Prop) (rows : List (List V)) (es : List MapEntry) : Prop :=
  es.length = rows.length ∧ ∀ (i : Nat) (row : List V) (e : MapEntry), rows[i]? = some row → es[i]? = some e → ∃ kv vv, row = [kv, vv] ∧ DRel w A kv e.key ∧ DRel w A vv e.val
theorem EntL.tail {w A r rows e es} (h : EntL w A (r :: rows) (e :: es)) : EntL w A rows es := ⟨by have := h.1; simpa using this, fun i row e' h1 h2 => h.2 (i + 1) row e' (by simpa using h1) (by simpa using h2)⟩
def found (es : List MapEntry) (i : Nat) (f : Option Nat) : Option (Nat × Value) := f.bind fun j => (es[j]?).map fun e => (i + j, e.val)
theorem found_succ {e : MapEntry} {es : List MapEntry} {i : Nat} {f : Option Nat} : found (e :: es) i (f.map (· + 1)) = found es (i + 1) f := by
  cases f with
  | none => rfl
  | some j => simp [found, Nat.add_assoc, Nat.add_comm 1]
theorem keyOK_cons {kt : TypeId} {key : V} {r : List V} {rows : List (List V)} (h : ((r :: rows).all fun r => match eqT P 8 kt key (r.headD .undef) with
    | some q => q == V.eqv key (r.headD .undef)
    | none => false) = true) : eqT P 8 kt key (r.headD .undef) = some (V.eqv key (r.headD .undef)) ∧ (rows.all fun r => match eqT P 8 kt key (r.headD .undef) with
    | some q => q == V.eqv key (r.headD .undef)
    | none => false) = true := by
  simp only [List.all_cons, Bool.and_eq_true] at h
  refine ⟨?_, h.2⟩
  have h1 := h.1
  split at h1
  · rename_i q hq
    rw [hq]; simpa using h1
  · cases h1
theorem findAsking_ok {w : World} {A A' : Nat → Prop} {h : Heap} {L : Nat → Prop} {E : Emb} {kt : TypeId} {key : V} {xx : Value} (hx : VRel w h L E A key xx) (hA : ∀ b, A' b → A b) : ∀ (rows : List (List V)) (es : List MapEntry) (i : Nat), EntL w A' rows es →
    (rows.all fun r => match eqT P 8 kt key (r.headD .undef) with
      | some q => q == V.eqv key (r.headD .undef)
      | none => false) = true →
    (Instr.findAsking kt xx es i).run P w = .ok (found es i (mapFind key rows)) w
  | [], [], i, _, _ => by simp [Instr.findAsking, mapFind, found]
  | [], _ :: _, i, h, _ => by have := h.1; simp at this
  | _ :: _, [], i, h, _ => by have := h.1; simp at this
  | r :: rows, e :: es, i, hr, hk => by
    obtain ⟨he, hk'⟩ := keyOK_cons hk
    obtain ⟨kv, vv, hrow, hkv, hvv⟩ := hr.2 0 r e rfl rfl
    subst hrow
    simp only [List.headD_cons] at he
    have e1 := eqT_sound (P := P) 8 10000 (by omega) kt key kv xx e.key _ hx (.pure (hkv.mono fun b hb => ⟨hA b hb, rfl⟩)) he
    have ih := findAsking_ok hx hA rows es (i + 1) hr.tail hk'
    simp only [Instr.findAsking, Sem.run_bind, Op.equal, Op.maxDepth, e1, Result.andThen_ok, mapFind, List.headD_cons]
    cases V.eqv key kv with
    | true => simp [found]
    | false => simp only [Bool.false_eq_true, if_false, cond_false, found_succ]; exact ih
theorem findNow_ok {w : World} {A A' : Nat → Prop} {h : Heap} {L : Nat → Prop} {E : Emb} {kt : TypeId} {key : V} {xx : Value} {d : TypeDesc} (hx : VRel w h L E A key xx) : ∀ (rows : List (List V)) (es : List MapEntry) (i : Nat) (r), EntL w A' rows es →
    (rows.all fun r => match eqT P 8 kt key (r.headD .undef) with
      | some q => q == V.eqv key (r.headD .undef)
      | none => false) = true → Instr.findNow d xx es i = some r → r = found es i (mapFind key rows)
  | [], [], i, r, _, _, h => by simp [Instr.findNow] at h; subst h; rfl
  | [], _ :: _, i, _, h, _, _ => by have := h.1; simp at this
  | _ :: _, [], i, _, h, _, _ => by have := h.1; simp at this
  | r :: rows, e :: es, i, res, hr, hk, hf => by
    obtain ⟨he, hk'⟩ := keyOK_cons hk
    obtain ⟨kv, vv, hrow, hkv, hvv⟩ := hr.2 0 r e rfl rfl
    subst hrow
    simp only [List.headD_cons] at he
    simp only [Instr.findNow] at hf
    simp only [mapFind, List.headD_cons]
    split at hf
    · rename_i hs
      rw [← sameNow_eqv hx hkv he hs]
      simp only [Option.some.injEq] at hf
      subst hf; simp [found]
    · rename_i hs
      rw [← sameNow_eqv hx hkv he hs]
      simp only [cond_false, found_succ]
      exact findNow_ok hx rows es (i + 1) res hr.tail hk' hf
    · cases hf
theorem findKey_ok {w : World} {A A' : Nat → Prop} {h : Heap} {L : Nat → Prop} {E : Emb} {kt : TypeId} {key : V} {xx : Value} (hx : VRel w h L E A key xx) (hA : ∀ b, A' b → A b) {rows : List (List V)} {es : List MapEntry} (hr : EntL w A' rows es)
    (hk : keyOK P kt key rows = true) : (Instr.findKey kt xx es).run P w = .ok (found es 0 (mapFind key rows)) w ∧ ∀ em, (Instr.checkKey em 10000 kt xx).run P w = .ok () w := by
  simp only [keyOK, Bool.and_eq_true] at hk
  obtain ⟨h1, h2⟩ := hk
  obtain ⟨q, hq⟩ := Option.isSome_iff_exists.1 h1
  have hu : ∃ d, P.underlying kt = some d := by
    simp only [eqT] at hq
    split at hq <;> first | exact ⟨_, by assumption⟩ | cases hq
  obtain ⟨d, hu⟩ := hu
  refine ⟨?_, fun em => checkKey_ok em 8 10000 (by omega) kt key key xx q hx hq⟩
  simp only [Instr.findKey, Sem.run_bind, run_underlying hu, Result.andThen_ok]
  cases hf : Instr.findNow d xx es 0 with
  | some r =>
    simp only [Sem.run_pure]
    rw [findNow_ok hx rows es 0 r hr h2 hf]
  | none => exact findAsking_ok hx hA rows es 0 hr h2
theorem SRel.newMap {n0 A0 L w t h a E} (S : SRel n0 A0 L w t h a E) {id : Nat} (hid : ¬ L id) :
    SRel n0 A0 (fun k => L k ∨ k = id) { w with heap := w.heap.push (.map #[] 0) } t (h.ins id ⟨false, [.mark], [[.mdat []]], false⟩) a (E.set id (some w.heap.size) undef) := by
  have hw : Below w.heap.size w { w with heap := w.heap.push (.map #[] 0) } := by
    refine ⟨rfl, rfl, rfl, Nat.le_refl _, by simp, fun k hk => ?_⟩
    show (w.heap.push _)[k]? = _
    rw [Array.getElem?_push, if_neg (by omega)]
  have hA : ∀ b, Ab n0 A0 w h E b → Ab n0 A0 { w with heap := w.heap.push (.map #[] 0) } (h.ins id ⟨false, [.mark], [[.mdat []]], false⟩) (E.set id (some w.heap.size) undef) b ∧ ({ w with heap := w.heap.push (.map #[] 0) } : World).heap[b]? = w.heap[b]? := by
    refine fun b hb => ⟨⟨hb.1, Nat.lt_of_lt_of_le hb.2.1 hw.size, fun k bl hk hf => ?_⟩, hw.block b hb.2.1⟩
    rw [Heap.get_ins] at hk
    by_cases e : k = id
    · subst e
      simp only [Emb.set, if_true]
      intro hmb
      have := Option.some.inj hmb
      have := hb.2.1
      omega
    · rw [if_neg e] at hk
      simp only [Emb.set, if_neg e]
      exact hb.2.2 k bl hk hf
  have hh := new_hh (h := h) (blk := ⟨false, [.mark], [[.mdat []]], false⟩) (E := E) (m := some w.heap.size) (hd := undef) hid
  refine S.trans hw.size (fun k h => .inl h) hA hh (fun k b' hb => ?_) (fun k b hb => ?_) (fun k b r hb hr => ?_) (fun k b k' b' r hb hb' hr hr' => ?_)
  · rw [Heap.get_ins] at hb
    by_cases e : k = id
    · subst e
      rw [if_pos rfl] at hb
      cases hb
      refine ⟨by simp, (fun h => by cases h), .inr (.inr (.inl ⟨w.heap.size, #[], 0, [], by simp [Emb.set], by simp, rfl, rfl, rfl, fun i row e h => by simp at h, fun i e h => by simp at h, fun i j e e' h => by simp at h⟩))⟩
    · rw [if_neg e] at hb
      exact (S.hb k b' hb).mono hA (fun k h => .inl h) hh (by simp [Emb.set, e]) (by simp [Emb.set, e]) (fun r hr => hw.block r (S.own k b' r hb hr).2)
  · rw [Heap.get_ins] at hb
    by_cases e : k = id
    · exact .inr e
    · rw [if_neg e] at hb; exact .inl (S.hl k b hb)
  · rw [Heap.get_ins] at hb
    by_cases e : k = id
    · subst e
      simp only [Emb.set, if_true, Option.some.injEq] at hr
      have h2 := S.nh
      subst hr
      exact ⟨h2, by simp⟩
    · rw [if_neg e] at hb
      simp only [Emb.set, if_neg e] at hr
      have := S.own k b r hb hr
      have := hw.size
      exact ⟨by omega, by omega⟩
  · rw [Heap.get_ins] at hb hb'
    by_cases e : k = id
    · by_cases e' : k' = id
      · rw [e, e']
      · rw [if_neg e'] at hb'
        simp only [Emb.set, if_pos e, Option.some.injEq] at hr
        simp only [Emb.set, if_neg e'] at hr'
        have h2 := (S.own k' b' r hb' hr').2
        omega
    · rw [if_neg e] at hb
      simp only [Emb.set, if_neg e] at hr
      by_cases e' : k' = id
      · simp only [Emb.set, if_pos e', Option.some.injEq] at hr'
        have h2 := (S.own k b r hb hr).2
        omega
      · rw [if_neg e'] at hb'
        simp only [Emb.set, if_neg e'] at hr'
        exact S.inj k b k' b' r hb hb' hr hr'
theorem SRel.putMap {n0 A0 L w t h a E} (S : SRel n0 A0 L w t h a E) {k : Nat} {b : Blk} {rows : List (List V)} {r : Nat} {es es' : Array MapEntry} {clk clk' : Nat} (hk : h.get k = some b) (hfr : b.fr = false) (hm : b.isMap = true) (hsh : b.sh.length = 1) (hr : E.m k = some r)
    (hes : w.heap[r]? = some (.map es clk)) (hin : MapIn w (Ab n0 A0 w h E) rows es' clk') :
    SRel n0 A0 L { w with heap := w.heap.setIfInBounds r (.map es' clk') } t (h.ins k { b with rows := [[.mdat rows]] }) a E := by
  have hlt : r < w.heap.size := (Array.getElem?_eq_some_iff.1 hes).1
  have hother : ∀ q, q ≠ r → (w.heap.setIfInBounds r (.map es' clk'))[q]? = w.heap[q]? := fun q hq => by rw [Array.getElem?_setIfInBounds_ne (Ne.symm hq)]
  have hvec : b.vec = false := by
    have := hm; simp only [Blk.isMap, Bool.and_eq_true, Bool.not_eq_true'] at this; exact this.1
  have hb1 : b.rows.length ≤ 1 := by
    rcases (S.hb k b hk).mem with ⟨_, h1, _⟩ | ⟨_, _, _, _, _, _, _, h1⟩ | ⟨_, _, _, _, _, _, _, h1, _⟩ | ⟨_, _, _, _, _, _, _, _, _, h1, _⟩
    · rw [hvec] at h1; cases h1
    · rw [hm] at h1; cases h1
    · rw [h1]; exact Nat.le_refl _
    · rw [h1]; exact Nat.le_refl _
  have hA : ∀ q, Ab n0 A0 w h E q → Ab n0 A0 { w with heap := w.heap.setIfInBounds r (.map es' clk') } (h.ins k { b with rows := [[.mdat rows]] }) E q ∧ (w.heap.setIfInBounds r (.map es' clk'))[q]? = w.heap[q]? := by
    refine fun q hq => ⟨⟨hq.1, by simpa using hq.2.1, fun k' bl hk' hf => ?_⟩, hother q fun e => hq.2.2 k b hk hfr (by rw [e]; exact hr)⟩
    rw [Heap.get_ins] at hk'
    by_cases e : k' = k
    · subst e; exact hq.2.2 k' b hk hfr
    · rw [if_neg e] at hk'; exact hq.2.2 k' bl hk' hf
  have hh : ∀ k' b', L k' → (h.ins k { b with rows := [[.mdat rows]] }).get k' = some b' → ∃ b, h.get k' = some b ∧ b.rows.length ≤ b'.rows.length ∧ b.sh = b'.sh ∧ E.m k' = E.m k' ∧ E.hd k' = E.hd k' := by
    intro k' b' _ hb
    rw [Heap.get_ins] at hb
    by_cases e : k' = k
    · subst e
      rw [if_pos rfl] at hb; cases hb
      exact ⟨b, hk, by simpa using hb1, rfl, rfl, rfl⟩
    · rw [if_neg e] at hb; exact ⟨b', hb, Nat.le_refl _, rfl, rfl, rfl⟩
  have gg : ∀ k' b', (h.ins k { b with rows := [[.mdat rows]] }).get k' = some b' → ∃ b, h.get k' = some b := by
    intro k' b' hb
    rw [Heap.get_ins] at hb
    by_cases e : k' = k
    · subst e; exact ⟨b, hk⟩
    · rw [if_neg e] at hb; exact ⟨b', hb⟩
  refine S.trans (by simp) (fun _ h => h) hA hh (fun k' b' hb => ?_) (fun k' b' hb => ?_) (fun k' b' r' hb hr' => ?_) (fun k1 b1 k2 b2 r' h1 h2 => ?_)
  · rw [Heap.get_ins] at hb
    by_cases e : k' = k
    · subst e
      rw [if_pos rfl] at hb; cases hb
      refine ⟨by simp [hsh], (fun h => by rw [hvec] at h; cases h), .inr (.inr (.inl ⟨r, es', clk', rows, hr, ?_, by simpa [Blk.isMp, Blk.isMap, hsh] using hm, rfl, hin.mono hA⟩))⟩
      show (w.heap.setIfInBounds r _)[r]? = _
      rw [Array.getElem?_setIfInBounds]; simp [hlt]
    · rw [if_neg e] at hb
      refine (S.hb k' b' hb).mono hA (fun _ h => h) hh rfl rfl (fun r' hr' => hother r' fun e2 => ?_)
      subst e2
      exact e (S.inj k' b' k b r' hb hk hr' hr)
  · obtain ⟨b0, h0⟩ := gg k' b' hb; exact S.hl k' b0 h0
  · obtain ⟨b0, h0⟩ := gg k' b' hb
    have := S.own k' b0 r' h0 hr'
    exact ⟨this.1, by simpa using this.2⟩
  · obtain ⟨c1, g1⟩ := gg k1 b1 h1
    obtain ⟨c2, g2⟩ := gg k2 b2 h2
    exact S.inj k1 c1 k2 c2 r' g1 g2
theorem mapT_iff {t kt et : TypeId} (h : mapT P t = some (kt, et)) : P.underlying t = some (.map kt et) := by
  unfold mapT at h
  split at h
  · rename_i k e hu; simp only [Option.some.injEq, Prod.mk.injEq] at h; rw [hu, h.1, h.2]
  · cases h
theorem opMakeMap_ok {n0 A0 L w t h a E} (S : SRel n0 A0 L w t h a E) {id : Nat} (hid : ¬ L id) {ty : TypeId} {v e fz} (h1 : opMakeMap P ty id = ⟨true, v, e, fz⟩) :
    OpOK P n0 A0 L w t h a id v e fz ((Instr.makeMap ty none).run P w) := by
  simp only [opMakeMap, OR.mk.injEq] at h1
  obtain ⟨_, rfl, rfl, rfl⟩ := h1
  have hB : Below w.heap.size w { w with heap := w.heap.push (.map #[] 0) } := by
    refine ⟨rfl, rfl, rfl, Nat.le_refl _, by simp, fun k hk => ?_⟩
    show (w.heap.push _)[k]? = _
    rw [Array.getElem?_push, if_neg (by omega)]
  refine ⟨.map (some w.heap.size), _, _, by simp [Instr.makeMap], Below.mono hB S.nh, (S.freeze []).newMap hid, .mp id _ (.inr rfl) ⟨_, rfl⟩ fun b hb => ⟨w.heap.size, by simp [Emb.set], rfl⟩⟩
theorem eqs_symm (x y : V) : V.eqs x y = V.eqs y x := by
  cases x <;> cases y <;> first | rfl | skip
  · rename_i k a k' b
    simp only [V.eqs]
    have e1 : beqK k k' = beqK k' k := by cases k <;> cases k' <;> rfl
    rw [e1, (BEq.comm : (a == b) = (b == a))]
  · simp only [V.eqs]; exact BEq.comm
  · simp only [V.eqs]; exact BEq.comm
theorem eqsL_symm : ∀ (l r : List V), V.eqsL l r = V.eqsL r l
  | [], [] => rfl
  | [], _ :: _ => rfl
  | _ :: _, [] => rfl
  | a :: l, b :: r => by simp only [V.eqsL]; rw [eqs_symm a b, eqsL_symm l r]
theorem eqv_symm (x y : V) : V.eqv x y = V.eqv y x := by
  cases x <;> cases y <;> first | rfl | (simp only [V.eqv]; exact eqsL_symm _ _) | (simp only [V.eqv]; exact eqs_symm _ _)
theorem mapFind_some {key : V} : ∀ {rows : List (List V)} {i : Nat}, mapFind key rows = some i → ∃ row, rows[i]? = some row ∧ V.eqv key (row.headD .undef) = true
  | [], i, h => by simp [mapFind] at h
  | r :: rows, i, h => by
    simp only [mapFind] at h
    cases he : V.eqv key (r.headD .undef) with
    | true => simp only [he, cond_true, Option.some.injEq] at h; subst h; exact ⟨r, rfl, he⟩
    | false =>
      simp only [he, cond_false, Option.map_eq_some_iff] at h
      obtain ⟨j, hj, rfl⟩ := h
      obtain ⟨row, h1, h2⟩ := mapFind_some hj
      exact ⟨row, by simpa using h1, h2⟩
theorem MapIn.entL {w A rows es clk} (m : MapIn w A rows es clk) : EntL w A rows es.toList := ⟨by simpa using m.len, fun i row e h1 h2 => m.rel i row e h1 (by simpa using h2)⟩
theorem emptyRefs {K : Nat → Prop} {h : Heap} {v : V} (hr : (V.refs v).isEmpty = true) : RefsIn K h v := by
  intro k hk
  rw [List.isEmpty_iff] at hr
  rw [hr] at hk; cases hk
theorem keyRel {n0 A0 L w t h a E} (S : SRel n0 A0 L w t h a E) (fz : List Nat) {v x} (hr : (V.refs v).isEmpty = true) (hv : VRel w h L E (Ab n0 A0 w h E) v x) : DRel w (Ab n0 A0 w (h.freeze fz) E) (V.pure h v) x :=
  hv.toPure S (K := fun _ => False) (fun _ hb => hb.freeze _) (fun _ _ _ hk => hk.elim) (emptyRefs hr)
theorem below_put {n0 : Nat} {w : World} {r : Nat} (h : n0 ≤ r) (o : Obj) : Below n0 w { w with heap := w.heap.setIfInBounds r o } := by
  refine ⟨rfl, rfl, rfl, Nat.le_refl _, by simp, fun k hk => ?_⟩
  show (w.heap.setIfInBounds r o)[k]? = _
  rw [Array.getElem?_setIfInBounds_ne (by omega)]
theorem frz_get {h : Heap} {fz : List Nat} {k : Nat} {b : Blk} (hb : h.get k = some b) (hk : fz.any (Nat.beq k) = false) : (h.freeze fz).get k = some b := by
  rw [Heap.get_freeze, hb]; simp [hk]
theorem opMapUpdate_ok {n0 A0 L w t h a E} (S : SRel n0 A0 L w t h a E) {id : Nat} {ty : TypeId} {vm vk vx : V} {xm xk xx : Value} (hm : VRel w h L E (Ab n0 A0 w h E) vm xm) (hk : VRel w h L E (Ab n0 A0 w h E) vk xk) (hx : VRel w h L E (Ab n0 A0 w h E) vx xx) {v e fz}
    (h1 : opMapUpdate P ty h vm vk vx = ⟨true, v, e, fz⟩) : ∃ w' E', (Instr.mapUpdate ty xm xk xx).run P w = .ok () w' ∧ Below n0 w w' ∧ SRel n0 A0 (fun k => L k ∨ k = id) w' t (e.run id (h.freeze fz)) a E' ∧ v = .undef := by
  unfold opMapUpdate at h1
  split at h1
  · rename_i kt et k hmt
    split at h1
    · rename_i b hb
      simp only [OR.mk.injEq, Bool.and_eq_true, Bool.not_eq_true'] at h1
      obtain ⟨⟨⟨⟨⟨⟨⟨hmp, hfr⟩, hsh⟩, hko⟩, hwh⟩, hkr⟩, hself⟩, rfl, rfl, rfl⟩ := h1
      have hsh := Nat.eq_of_beq_eq_true hsh
      have hu := mapT_iff hmt
      cases hm with
      | pure hd => cases hd
      | mp _ _ hL _ hh =>
      obtain ⟨r, hr, rfl⟩ := hh b hb
      generalize hfz : deepRefs h [vx] = fz at *
      have hself' : fz.any (Nat.beq k) = false := hself
      have Sf := S.freeze fz
      have hbf := frz_get hb hself'
      obtain ⟨r', es, clk, hr', hes, hin⟩ := (Sf.hb k b hbf).memM (by simp [Blk.isMp, hmp, hsh])
      rw [hr] at hr'; cases hr'
      have hkd := keyRel S fz hkr hk
      have hxd : DRel w (Ab n0 A0 w (h.freeze fz) E) (V.pure h vx) xx := by rw [← hfz]; exact toPure_fz S (List.mem_singleton.2 rfl) hx
      generalize V.pure h vk = kv at *
      generalize V.pure h vx = vv at *
      obtain ⟨hfind, hck⟩ := findKey_ok (P := P) (h := h.freeze fz) (L := L) (E := E) (.pure hkd) (fun _ h => h) hin.entL hko
      have hrun0 : ∀ (X : Option (Nat × Value)), found es.toList 0 (mapFind kv b.ents) = X → (Instr.mapUpdate ty (.map (some r)) xk xx).run P w =
          (match X with
            | some (i, _) => (do
              let key ← Instr.keyThatStays (((es[i]?).map (fun e : MapEntry => e.key)).getD xk) xk
              setObj r (.map (es.modify i fun e => { e with key, val := xx }) clk) : Sem Unit)
            | none => setObj r (.map (es.push { key := xk, val := xx, born := clk }) (clk + 1))).run P w := by
        intro X hX
        simp only [Instr.mapUpdate, Sem.run_bind, run_underlying hu, Result.andThen_ok, MapKept.run_getObj_map hes, hck, hfind, hX]
        cases X <;> rfl
      cases hf : mapFind kv b.ents with
      | none =>
        have hr1 := hrun0 none (by rw [hf]; rfl)
        simp only [MapKept.run_setObj_map _ hes] at hr1
        refine ⟨_, E, hr1, below_put (S.own k b r hb hr).1 _, ?_, rfl⟩
        have : mapPut b.ents kv vv = b.ents ++ [[kv, vv]] := by simp [mapPut, hf]
        rw [Eff.run, this]
        refine (Sf.putMap hbf hfr hmp hsh hr hes ⟨by simp [hin.len], fun i row e h1 h2 => ?_, ⟨fun i e h2 => ?_, fun i j e e' h2 h3 hij => ?_⟩⟩).weaken (fun _ h => .inl h)
        · rw [List.getElem?_append] at h1
          rw [Array.getElem?_push] at h2
          rw [hin.len] at h2
          by_cases hi : i < b.ents.length
          · rw [if_pos hi] at h1; rw [if_neg (by omega)] at h2
            exact hin.rel i row e h1 h2
          · rw [if_neg hi] at h1
            have hi0 : i - b.ents.length = 0 := by have := (List.getElem?_eq_some_iff.1 h1).1; simp at this; omega
            rw [hi0] at h1
            rw [if_pos (by omega)] at h2
            simp only [List.getElem?_cons_zero, Option.some.injEq] at h1 h2
            subst h1; subst h2
            exact ⟨kv, vv, rfl, hkd, hxd⟩
        · rw [Array.getElem?_push] at h2
          split at h2
          · simp only [Option.some.injEq] at h2; subst h2; exact Nat.lt_succ_self _
          · exact Nat.lt_succ_of_lt (hin.born.1 i e h2)
        · rw [Array.getElem?_push] at h2 h3
          split at h2
          · have hj := h3
            split at hj
            · omega
            · have := (Array.getElem?_eq_some_iff.1 hj).1; omega
          · split at h3
            · simp only [Option.some.injEq] at h3; subst h3; exact hin.born.1 i e h2
            · exact hin.born.2 i j e e' h2 h3 hij
      | some i =>
        obtain ⟨row, hrow, heq⟩ := mapFind_some hf
        have hi := (List.getElem?_eq_some_iff.1 hrow).1
        have hie : i < es.size := by rw [hin.len]; exact hi
        have hei : es[i]? = some es[i] := Array.getElem?_eq_getElem hie
        have hr1 := hrun0 (some (i, es[i].val)) (by rw [hf]; simp [found, hei])
        obtain ⟨kv0, vv0, hrw, hk0, hv0⟩ := hin.rel i row es[i] hrow hei
        rw [hrw] at heq
        simp only [List.headD_cons] at heq
        have hbits : Instr.sameBits 10000 es[i].key xk = true := eqv_bits hk0 hkd (by rw [eqv_symm]; exact heq)
        simp only [hei, Option.map_some, Option.getD_some, Instr.keyThatStays, hbits, if_true, Sem.run_bind, Sem.run_pure, Result.andThen_ok, MapKept.run_setObj_map _ hes] at hr1
        refine ⟨_, E, hr1, below_put (S.own k b r hb hr).1 _, ?_, rfl⟩
        have : mapPut b.ents kv vv = b.ents.set i [kv, vv] := by simp [mapPut, hf]
        rw [Eff.run, this]
        refine (Sf.putMap hbf hfr hmp hsh hr hes ⟨by simp [hin.len], fun j row e h1 h2 => ?_, ⟨fun j e h2 => ?_, fun j j' e e' h2 h3 hij => ?_⟩⟩).weaken (fun _ h => .inl h)
        · rw [List.getElem?_set] at h1
          rw [Array.getElem?_modify] at h2
          by_cases hij : i = j
          · subst hij
            rw [if_pos rfl, if_pos hi] at h1
            rw [if_pos rfl, hei] at h2
            simp only [Option.map_some, Option.some.injEq] at h1 h2
            subst h1; subst h2
            exact ⟨kv, vv, rfl, hkd, hxd⟩
          · rw [if_neg hij] at h1 h2
            exact hin.rel j row e h1 h2
        · rw [Array.getElem?_modify] at h2
          split at h2
          · obtain ⟨e0, h0, rfl⟩ := Option.map_eq_some_iff.1 h2
            exact hin.born.1 j e0 h0
          · exact hin.born.1 j e h2
        · rw [Array.getElem?_modify] at h2 h3
          have g2 : ∃ e0, es[j]? = some e0 ∧ e.born = e0.born := by
            split at h2
            · obtain ⟨e0, h0, rfl⟩ := Option.map_eq_some_iff.1 h2; exact ⟨e0, h0, rfl⟩
            · exact ⟨e, h2, rfl⟩
          have g3 : ∃ e0, es[j']? = some e0 ∧ e'.born = e0.born := by
            split at h3
            · obtain ⟨e0, h0, rfl⟩ := Option.map_eq_some_iff.1 h3; exact ⟨e0, h0, rfl⟩
            · exact ⟨e', h3, rfl⟩
          obtain ⟨e0, a1, a2⟩ := g2
          obtain ⟨e1, b1, b2⟩ := g3
          rw [a2, b2]; exact hin.born.2 j j' e0 e1 a1 b1 hij
    · simp [OR.fail] at h1
  · simp [OR.fail] at h1
theorem eraseIdx_get? {α : Type} (l : List α) (i j : Nat) : (l.eraseIdx i)[j]? = if j < i then l[j]? else l[j + 1]? := List.getElem?_eraseIdx
theorem opDelete_ok {n0 A0 L w t h a E} (S : SRel n0 A0 L w t h a E) {id : Nat} {ty tk rt : TypeId} {vm vk : V} {xm xk : Value} (hm : VRel w h L E (Ab n0 A0 w h E) vm xm) (hk : VRel w h L E (Ab n0 A0 w h E) vk xk) {v e fz}
    (h1 : opDelete P ty h vm vk = ⟨true, v, e, fz⟩) : OpOK P n0 A0 L w t h a id v e fz ((Builtin.delete_ #[ty, tk] rt #[xm, xk]).run P w) := by
  unfold opDelete at h1
  split at h1
  · rename_i kt et k hmt
    split at h1
    · rename_i b hb
      simp only [OR.mk.injEq, Bool.and_eq_true, Bool.not_eq_true'] at h1
      obtain ⟨⟨⟨⟨⟨hmp, hfr⟩, hsh⟩, hko⟩, hkr⟩, rfl, rfl, rfl⟩ := h1
      have hsh := Nat.eq_of_beq_eq_true hsh
      have hu := mapT_iff hmt
      cases hm with
      | pure hd => cases hd
      | mp _ _ hL _ hh =>
      obtain ⟨r, hr, rfl⟩ := hh b hb
      have Sf := S.freeze []
      have hbf := frz_get (fz := []) hb rfl
      obtain ⟨r', es, clk, hr', hes, hin⟩ := (Sf.hb k b hbf).memM (by simp [Blk.isMp, hmp, hsh])
      rw [hr] at hr'; cases hr'
      have hkd := keyRel S [] hkr hk
      generalize V.pure h vk = kv at *
      obtain ⟨hfind, hck⟩ := findKey_ok (P := P) (h := h.freeze []) (L := L) (E := E) (.pure hkd) (fun _ h => h) hin.entL hko
      have htup : ∀ (w' : World) (h' : Heap) (L' : Nat → Prop) (E' : Emb) (A' : Nat → Prop), VRel w' h' L' E' A' (.tup []) (.tuple #[]) := fun _ _ _ _ _ => .pure (.tup [] #[] rfl (fun i v x h => by simp at h))
      have hrun0 : ∀ (X : Option (Nat × Value)), found es.toList 0 (mapFind kv b.ents) = X → (Builtin.delete_ #[ty, tk] rt #[.map (some r), xk]).run P w =
          .ok (.tuple #[]) { w with heap := w.heap.setIfInBounds r (.map (match X with
            | some (i, _) => es.eraseIdxIfInBounds i
            | none => es) clk) } := by
        intro X hX
        have hlt : r < w.heap.size := (Array.getElem?_eq_some_iff.1 hes).1
        simp [Builtin.delete_, run_underlying hu, MapKept.run_getObj_map hes, hck, hfind, hX]
        cases X <;> simp [MapKept.run_setObj_map _ hes]
      cases hf : mapFind kv b.ents with
      | none =>
        have hr1 := hrun0 none (by rw [hf]; rfl)
        refine ⟨_, _, E, hr1, below_put (S.own k b r hb hr).1 _, ?_, htup _ _ _ _ _⟩
        have : mapDel b.ents kv = b.ents := by simp [mapDel, hf]
        rw [Eff.run, this]
        exact (Sf.putMap hbf hfr hmp hsh hr hes hin).weaken (fun _ h => .inl h)
      | some i =>
        obtain ⟨row, hrow, heq⟩ := mapFind_some hf
        have hi := (List.getElem?_eq_some_iff.1 hrow).1
        have hie : i < es.size := by rw [hin.len]; exact hi
        have hei : es[i]? = some es[i] := Array.getElem?_eq_getElem hie
        have hr1 := hrun0 (some (i, es[i].val)) (by rw [hf]; simp [found, hei])
        refine ⟨_, _, E, hr1, below_put (S.own k b r hb hr).1 _, ?_, htup _ _ _ _ _⟩
        have : mapDel b.ents kv = b.ents.eraseIdx i := by simp [mapDel, hf]
        rw [Eff.run, this]
        have hel : ∀ j : Nat, (es.eraseIdxIfInBounds i)[j]? = if j < i then es[j]? else es[j + 1]? := by
          intro j
          have e1 : (es.eraseIdxIfInBounds i) = es.eraseIdx i hie := by simp [Array.eraseIdxIfInBounds, hie]
          rw [e1, Array.getElem?_eraseIdx]
        refine (Sf.putMap hbf hfr hmp hsh hr hes ⟨?_, fun j row e h1 h2 => ?_, ⟨fun j e h2 => ?_, fun j j' e e' h2 h3 hij => ?_⟩⟩).weaken (fun _ h => .inl h)
        · simp only
          rw [show es.eraseIdxIfInBounds i = es.eraseIdx i hie by simp [Array.eraseIdxIfInBounds, hie], Array.size_eraseIdx, List.length_eraseIdx_of_lt hi, hin.len]
        · simp only at h2
          rw [hel] at h2
          rw [eraseIdx_get?] at h1
          by_cases hji : j < i
          · rw [if_pos hji] at h1 h2; exact hin.rel j row e h1 h2
          · rw [if_neg hji] at h1 h2; exact hin.rel (j + 1) row e h1 h2
        · simp only at h2
          rw [hel] at h2
          split at h2
          · exact hin.born.1 j e h2
          · exact hin.born.1 (j + 1) e h2
        · simp only at h2 h3
          rw [hel] at h2 h3
          split at h2
          · split at h3
            · exact hin.born.2 j j' e e' h2 h3 hij
            · exact hin.born.2 j (j' + 1) e e' h2 h3 (by omega)
          · split at h3
            · omega
            · exact hin.born.2 (j + 1) (j' + 1) e e' h2 h3 (by omega)
    · simp [OR.fail] at h1
  · simp [OR.fail] at h1
theorem elemV_ok {ty : TypeId} {v0 : V} (h0 : (elemV P ty v0).c = true) : (elemV P ty v0).v = v0 := by
  obtain ⟨v, e, fz, h1⟩ : ∃ v e fz, elemV P ty v0 = ⟨true, v, e, fz⟩ := ⟨_, _, _, by rw [← h0]⟩
  rw [h1]
  show v = v0
  unfold elemV at h1
  split at h1
  rename_i c u e' fz' ho
  simp only [OR.mk.injEq, Bool.and_eq_true, beq_iff_eq] at h1
  obtain ⟨⟨⟨rfl, hho⟩, hag⟩, rfl, _, _⟩ := h1
  have hf := holdsL_fits hho
  have hty : typedL 0 (ck P ty) (V.cells v0) = V.cells v0 := by
    have := typedL_eq hf 0 (ck P ty).length
    rw [List.drop_zero, List.take_length, List.drop_zero, hf.1, List.take_length] at this
    exact this
  rw [hty] at ho
  unfold outV at ho
  cases ha : aggT P ty with
  | true =>
    simp only [ha, cond_true, OR.val, OR.mk.injEq] at ho
    rw [ha] at hag
    cases v0 <;> simp [V.isAgg] at hag
    exact ho.2.1.symm
  | false =>
    simp only [ha, cond_false] at ho
    rw [ha] at hag
    have : V.cells v0 = [v0] := by cases v0 <;> first | rfl | simp [V.isAgg] at hag
    rw [this] at ho
    simp only [OR.val, OR.mk.injEq] at ho
    exact ho.2.1.symm
theorem ents_ok {n0 A0 L w t h a E} (S : SRel n0 A0 L w t h a E) {vm : V} {xm : Value} (hm : VRel w h L E (Ab n0 A0 w h E) vm xm) {rows : List (List V)} (he : entriesOf h vm = some rows) :
    ∃ es : Array MapEntry, ((xm = .map none ∧ es = #[]) ∨ ∃ r clk, xm = .map (some r) ∧ w.heap[r]? = some (.map es clk)) ∧ EntL w (Ab n0 A0 w h E) rows es.toList := by
  unfold entriesOf at he
  split at he
  · rename_i k
    split at he
    · rename_i b hb
      cases hmp : b.isMp with
      | false => simp [hmp] at he
      | true =>
        simp only [hmp, cond_true, Option.some.injEq] at he
        subst he
        cases hm with
        | pure hd => cases hd
        | mp _ _ hL _ hh =>
        obtain ⟨r, hr, rfl⟩ := hh b hb
        obtain ⟨r', es, clk, hr', hes, hin⟩ := (S.hb k b hb).memM hmp
        rw [hr] at hr'; cases hr'
        exact ⟨es, .inr ⟨r, clk, rfl, hes⟩, hin.entL⟩
    · cases he
  · simp only [Option.some.injEq] at he
    subst he
    cases hm with | pure hd =>
    cases hd with
    | mnil => exact ⟨#[], .inl ⟨rfl, rfl⟩, rfl, fun i row e h => by simp at h⟩
    | mdat _ r es clk kf vf hA hw hl hr hb hk hv =>
      refine ⟨es, .inr ⟨r, clk, rfl, hw⟩, by simpa using hl, fun i row e h1 h2 => ?_⟩
      exact ⟨kf i, vf i, hr i row h1, hk i e (by simpa using h2), hv i e (by simpa using h2)⟩
  · cases he
theorem zeroAgg_ok {ty : TypeId} (hz : zeroOK P ty = true) (ha : zeroAgg P ty = true) {v e fz} (ho : outV P ty (V.pureL [] (zeroV P ty)) = ⟨true, v, e, fz⟩) :
    ∃ z, (∀ w, (zeroValue ty).run P w = .ok z w) ∧ ∀ w h L E A, VRel w h L E A v z := by
  obtain ⟨_, z, hzr, hzi, hz1, hz2, hz3, _⟩ := zeroOK_rel hz
  refine ⟨z, hzr, fun w h L E A => ?_⟩
  have hzv : zeroV P ty = zipZero (ck P ty) z.cells.toList := by simp [zeroV, hzi]
  have hr : Rw (VRel w h L E A) (V.pureL [] (zeroV P ty)) z.cells.toList := by
    refine ⟨by rw [pureL_map]; simp; omega, fun i v x h1 h2 => ?_⟩
    rw [hzv] at h1
    exact .pure (zipZero_drel _ _ i v x h1 h2)
  obtain ⟨h1, _, _, _⟩ := outV_sound (P := P) hr ho
  unfold zeroAgg at ha
  rw [hzi] at ha
  cases hag : aggT P ty with
  | true =>
    rw [hag] at h1 ha
    simp only [if_true] at h1
    cases z <;> first | (simp at ha; done) | skip
    simpa [Value.cells] using h1
  | false =>
    rw [hag] at h1 ha
    simp only [Bool.false_eq_true, if_false] at h1
    have : z.cells = #[z] := by cases z <;> first | rfl | (simp at ha)
    rw [this] at h1
    simpa using h1
theorem opLookup_ok {n0 A0 L w t h a E} (S : SRel n0 A0 L w t h a E) {id : Nat} {ty : TypeId} {vm vk : V} {xm xk : Value} {ok : Bool} (hm : VRel w h L E (Ab n0 A0 w h E) vm xm) (hk : VRel w h L E (Ab n0 A0 w h E) vk xk) {v e fz}
    (h1 : opLookup P ty h vm vk ok = ⟨true, v, e, fz⟩) : OpOK P n0 A0 L w t h a id v e fz ((Instr.lookup ty xm xk ok).run P w) := by
  unfold opLookup at h1
  split at h1
  · rename_i kt et rows hmt hent
    simp only at h1
    split at h1
    · rename_i z e1 fz1 hz
      simp only [OR.if, OR.mk.injEq, Bool.and_eq_true] at h1
      obtain ⟨⟨⟨⟨⟨hec, hko⟩, hkr⟩, hz0⟩, hza⟩, rfl, rfl, rfl⟩ := h1
      rw [elemV_ok hec]
      have hu := mapT_iff hmt
      have hkd := keyRel S [] hkr hk
      rw [freeze_nil] at hkd
      refine OpOK.quiet S ?_
      generalize V.pure h vk = kv at *
      obtain ⟨es, hxm, hel⟩ := ents_ok S hm hent
      obtain ⟨zv, hzr, hzv⟩ := zeroAgg_ok hz0 hza hz
      obtain ⟨hfind, hck⟩ := findKey_ok (P := P) (h := h) (L := L) (E := E) (.pure hkd) (fun _ h => h) hel hko
      have hval : ∃ y, (Instr.lookup ty xm xk ok).run P w = .ok (if ok then .tuple #[y, .bool (mapHas rows kv)] else y) w ∧ VRel w h L E (Ab n0 A0 w h E) (mapGet rows kv z) y := by
        cases hf : mapFind kv rows with
        | none =>
          rw [hf] at hfind
          refine ⟨zv, ?_, by simpa [mapGet, hf] using hzv _ _ _ _ _⟩
          rcases hxm with ⟨rfl, rfl⟩ | ⟨r, clk, rfl, hw⟩
          · have hfind : (Instr.findKey kt xk []).run P w = .ok none w := by simpa [found] using hfind
            simp [Instr.lookup, run_underlying hu, hck, hfind, hzr, mapHas, hf]
          · have hfind : (Instr.findKey kt xk es.toList).run P w = .ok none w := by simpa [found] using hfind
            simp [Instr.lookup, run_underlying hu, MapKept.run_getObj_map hw, hck, hfind, hzr, mapHas, hf]
        | some i =>
          obtain ⟨row, hrow, _⟩ := mapFind_some hf
          have hi := (List.getElem?_eq_some_iff.1 hrow).1
          have hie : i < es.toList.length := by rw [hel.1]; exact hi
          have hei : es.toList[i]? = some es.toList[i] := List.getElem?_eq_getElem hie
          obtain ⟨k0, v0, hrw, _, hv0⟩ := hel.2 i row _ hrow hei
          rw [hf] at hfind
          have hfind : (Instr.findKey kt xk es.toList).run P w = .ok (some (i, es.toList[i].val)) w := by
            rw [hfind]; simp only [found, Option.bind_some, hei, Option.map_some, Nat.zero_add]
          have hg : mapGet rows kv z = v0 := by simp [mapGet, hf, List.getD_eq_getElem?_getD, hrow, hrw]
          refine ⟨es.toList[i].val, ?_, by rw [hg]; exact .pure hv0⟩
          rcases hxm with ⟨rfl, rfl⟩ | ⟨r, clk, rfl, hw⟩
          · simp at hie
          · cases ok <;> simp only [Instr.lookup, Sem.run_bind, run_underlying hu, MapKept.run_getObj_map hw, hck, hfind, Result.andThen_ok, Sem.run_pure, mapHas, hf, Option.isSome_some, Bool.false_eq_true, if_true, if_false]
      obtain ⟨y, hy, hyv⟩ := hval
      refine ⟨_, hy, ?_, rfl, rfl⟩
      · cases ok with
        | true =>
          simp only [cond_true, if_true]
          refine .tup _ _ rfl fun i u x h1 h2 => ?_
          match i with
          | 0 => simp at h1 h2; subst h1; subst h2; exact hyv
          | 1 => simp at h1 h2; subst h1; subst h2; exact .pure (.bool _)
          | i + 2 => simp at h1
        | false => simpa using hyv
    · simp [OR.fail] at h1
  · simp [OR.fail] at h1
theorem SRel.newIt {n0 A0 L w t h a E} (S : SRel n0 A0 L w t h a E) {id : Nat} (hid : ¬ L id) {o : Obj} {mt : Nat} {rows : List (List V)} (hin : ItIn w (Ab n0 A0 w h E) mt rows [] o) :
    SRel n0 A0 (fun k => L k ∨ k = id) { w with heap := w.heap.push o } t (h.ins id ⟨false, [.mark, .mark], [[.it mt rows [], .undef]], false⟩) a (E.set id (some w.heap.size) undef) := by
  have hw : Below w.heap.size w { w with heap := w.heap.push o } := by
    refine ⟨rfl, rfl, rfl, Nat.le_refl _, by simp, fun k hk => ?_⟩
    show (w.heap.push _)[k]? = _
    rw [Array.getElem?_push, if_neg (by omega)]
  have hA : ∀ b, Ab n0 A0 w h E b → Ab n0 A0 { w with heap := w.heap.push o } (h.ins id ⟨false, [.mark, .mark], [[.it mt rows [], .undef]], false⟩) (E.set id (some w.heap.size) undef) b ∧ ({ w with heap := w.heap.push o } : World).heap[b]? = w.heap[b]? := by
    refine fun b hb => ⟨⟨hb.1, Nat.lt_of_lt_of_le hb.2.1 hw.size, fun k bl hk hf => ?_⟩, hw.block b hb.2.1⟩
    rw [Heap.get_ins] at hk
    by_cases e : k = id
    · subst e
      simp only [Emb.set, if_true]
      intro hmb
      have := Option.some.inj hmb
      have := hb.2.1
      omega
    · rw [if_neg e] at hk
      simp only [Emb.set, if_neg e]
      exact hb.2.2 k bl hk hf
  have hh := new_hh (h := h) (blk := ⟨false, [.mark, .mark], [[.it mt rows [], .undef]], false⟩) (E := E) (m := some w.heap.size) (hd := undef) hid
  refine S.trans hw.size (fun k h => .inl h) hA hh (fun k b' hb => ?_) (fun k b hb => ?_) (fun k b r hb hr => ?_) (fun k b k' b' r hb hb' hr hr' => ?_)
  · rw [Heap.get_ins] at hb
    by_cases e : k = id
    · subst e
      rw [if_pos rfl] at hb
      cases hb
      refine ⟨by simp, (fun h => by cases h), .inr (.inr (.inr ⟨w.heap.size, o, mt, rows, [], by simp [Emb.set], by simp, rfl, rfl, rfl, hin.mono hA⟩))⟩
    · rw [if_neg e] at hb
      exact (S.hb k b' hb).mono hA (fun k h => .inl h) hh (by simp [Emb.set, e]) (by simp [Emb.set, e]) (fun r hr => hw.block r (S.own k b' r hb hr).2)
  · rw [Heap.get_ins] at hb
    by_cases e : k = id
    · exact .inr e
    · rw [if_neg e] at hb; exact .inl (S.hl k b hb)
  · rw [Heap.get_ins] at hb
    by_cases e : k = id
    · subst e
      simp only [Emb.set, if_true, Option.some.injEq] at hr
      have h2 := S.nh
      subst hr
      exact ⟨h2, by simp⟩
    · rw [if_neg e] at hb
      simp only [Emb.set, if_neg e] at hr
      have := S.own k b r hb hr
      have := hw.size
      exact ⟨by omega, by omega⟩
  · rw [Heap.get_ins] at hb hb'
    by_cases e : k = id
    · by_cases e' : k' = id
      · rw [e, e']
      · rw [if_neg e'] at hb'
        simp only [Emb.set, if_pos e, Option.some.injEq] at hr
        simp only [Emb.set, if_neg e'] at hr'
        have h2 := (S.own k' b' r hb' hr').2
        omega
    · rw [if_neg e] at hb
      simp only [Emb.set, if_neg e] at hr
      by_cases e' : k' = id
      · simp only [Emb.set, if_pos e', Option.some.injEq] at hr'
        have h2 := (S.own k b r hb hr).2
        omega
      · rw [if_neg e'] at hb'
        simp only [Emb.set, if_neg e'] at hr'
        exact S.inj k b k' b' r hb hb' hr hr'
theorem SRel.putIt {n0 A0 L w t h a E} (S : SRel n0 A0 L w t h a E) {w' : World} {k : Nat} {b : Blk} {mt : Nat} {rows : List (List V)} {seen : List Nat} {r : Nat} {o o' : Obj} (hk : h.get k = some b) (hfr : b.fr = false) (hm : b.isMap = true) (hmp : b.isMp = false) (hsh : b.sh.length = 2) (hb1 : b.rows.length = 1) (hr : E.m k = some r)
    (ho0 : w.heap[r]? = some o') (ho : w'.heap[r]? = some o) (hsz : w'.heap.size = w.heap.size) (hother : ∀ q, q ≠ r → w'.heap[q]? = w.heap[q]?) (hin : ItIn w (Ab n0 A0 w h E) mt rows seen o) :
    SRel n0 A0 L w' t (h.ins k { b with rows := [[.it mt rows seen, .undef]] }) a E := by
  have hvec : b.vec = false := by
    have := hm; simp only [Blk.isMap, Bool.and_eq_true, Bool.not_eq_true'] at this; exact this.1
  have hA : ∀ q, Ab n0 A0 w h E q → Ab n0 A0 w' (h.ins k { b with rows := [[.it mt rows seen, .undef]] }) E q ∧ w'.heap[q]? = w.heap[q]? := by
    refine fun q hq => ⟨⟨hq.1, by rw [hsz]; exact hq.2.1, fun k' bl hk' hf => ?_⟩, hother q fun e => hq.2.2 k b hk hfr (by rw [e]; exact hr)⟩
    rw [Heap.get_ins] at hk'
    by_cases e : k' = k
    · subst e; exact hq.2.2 k' b hk hfr
    · rw [if_neg e] at hk'; exact hq.2.2 k' bl hk' hf
  have hh : ∀ k' b', L k' → (h.ins k { b with rows := [[.it mt rows seen, .undef]] }).get k' = some b' → ∃ b, h.get k' = some b ∧ b.rows.length ≤ b'.rows.length ∧ b.sh = b'.sh ∧ E.m k' = E.m k' ∧ E.hd k' = E.hd k' := by
    intro k' b' _ hb
    rw [Heap.get_ins] at hb
    by_cases e : k' = k
    · subst e
      rw [if_pos rfl] at hb; cases hb
      exact ⟨b, hk, by simp [hb1], rfl, rfl, rfl⟩
    · rw [if_neg e] at hb; exact ⟨b', hb, Nat.le_refl _, rfl, rfl, rfl⟩
  have gg : ∀ k' b', (h.ins k { b with rows := [[.it mt rows seen, .undef]] }).get k' = some b' → ∃ b, h.get k' = some b := by
    intro k' b' hb
    rw [Heap.get_ins] at hb
    by_cases e : k' = k
    · subst e; exact ⟨b, hk⟩
    · rw [if_neg e] at hb; exact ⟨b', hb⟩
  refine S.trans (by omega) (fun _ h => h) hA hh (fun k' b' hb => ?_) (fun k' b' hb => ?_) (fun k' b' r' hb hr' => ?_) (fun k1 b1 k2 b2 r' h1 h2 => ?_)
  · rw [Heap.get_ins] at hb
    by_cases e : k' = k
    · subst e
      rw [if_pos rfl] at hb; cases hb
      exact ⟨by simp [hsh], (fun h => by rw [hvec] at h; cases h), .inr (.inr (.inr ⟨r, o, mt, rows, seen, hr, ho, hm, hmp, rfl, hin.mono hA⟩))⟩
    · rw [if_neg e] at hb
      refine (S.hb k' b' hb).mono hA (fun _ h => h) hh rfl rfl (fun r' hr' => hother r' fun e2 => ?_)
      subst e2
      exact e (S.inj k' b' k b r' hb hk hr' hr)
  · obtain ⟨b0, h0⟩ := gg k' b' hb; exact S.hl k' b0 h0
  · obtain ⟨b0, h0⟩ := gg k' b' hb
    have := S.own k' b0 r' h0 hr'
    exact ⟨this.1, by omega⟩
  · obtain ⟨c1, g1⟩ := gg k1 b1 h1
    obtain ⟨c2, g2⟩ := gg k2 b2 h2
    exact S.inj k1 c1 k2 c2 r' g1 g2
theorem opRange_ok {n0 A0 L w t h a E} (S : SRel n0 A0 L w t h a E) {id : Nat} (hid : ¬ L id) {ty : TypeId} {vx : V} {xx : Value} (hx : VRel w h L E (Ab n0 A0 w h E) vx xx) {v e fz}
    (h1 : opRange P ty vx id = ⟨true, v, e, fz⟩) : OpOK P n0 A0 L w t h a id v e fz ((Instr.range ty xx).run P w) := by
  have push : ∀ o : Obj, Below w.heap.size w { w with heap := w.heap.push o } := fun o => by
    refine ⟨rfl, rfl, rfl, Nat.le_refl _, by simp, fun k hk => ?_⟩
    show (w.heap.push _)[k]? = _
    rw [Array.getElem?_push, if_neg (by omega)]
  have fin : ∀ mt rows o, ItIn w (Ab n0 A0 w (h.freeze []) E) mt rows [] o → (Instr.range ty xx).run P w = .ok (.pointer (some ⟨w.heap.size, 0, none⟩)) { w with heap := w.heap.push o } →
      OpOK P n0 A0 L w t h a id (.ptr id 0 0) (.new ⟨false, [.mark, .mark], [[.it mt rows [], .undef]], false⟩) [] ((Instr.range ty xx).run P w) := by
    intro mt rows o hin hrun
    refine ⟨_, _, _, hrun, Below.mono (push _) S.nh, (S.freeze []).newIt hid hin, .ptr id 0 0 _ (.inr rfl) ⟨_, rfl⟩ fun b hb => ?_⟩
    simp only [Eff.run, Heap.get_ins, if_true, Option.some.injEq] at hb
    subst hb
    exact ⟨by simp, w.heap.size, by simp [Emb.set], by simp⟩
  unfold opRange at h1
  split at h1
  · rename_i rows
    cases hc : (mapT P ty).isSome && !Nat.beq ty 0 with
    | false => simp [hc, OR.fail] at h1
    | true =>
      simp only [hc, cond_true, OR.mk.injEq] at h1
      obtain ⟨_, rfl, rfl, rfl⟩ := h1
      simp only [Bool.and_eq_true, Bool.not_eq_true', Option.isSome_iff_exists] at hc
      obtain ⟨⟨⟨kt, et⟩, hmt⟩, hty⟩ := hc
      have hne : ty ≠ 0 := fun e => by rw [e] at hty; cases hty
      have hu := mapT_iff hmt
      cases hx with | pure hd =>
      cases hd with
      | mnil => exact fin _ _ (.mapIter none 0 #[] 0) (.inl ⟨hne, .inl ⟨rfl, rfl, rfl⟩⟩) (by simp [Instr.range, run_underlying hu])
      | mdat _ r es clk kf vf hA hw hl hr hb hk hv =>
        refine fin _ _ (.mapIter (some r) clk #[] clk) (.inl ⟨hne, .inr ⟨r, es, clk, by simp, hA.freeze [], hw, ⟨hl, fun i row e h1 h2 => ?_, hb⟩, fun i hi => by cases hi⟩⟩) (by simp [Instr.range, run_underlying hu, MapKept.run_getObj_map hw])
        exact ⟨kf i, vf i, hr i row h1, (hk i e h2).mono fun b hb => ⟨hb.freeze [], rfl⟩, (hv i e h2).mono fun b hb => ⟨hb.freeze [], rfl⟩⟩
  · rename_i s
    cases hc : strT P ty with
    | false => simp [hc, OR.fail] at h1
    | true =>
      simp only [hc, cond_true, OR.mk.injEq] at h1
      obtain ⟨_, rfl, rfl, rfl⟩ := h1
      have hu : P.underlying ty = some .string := by
        unfold strT at hc
        split at hc
        · assumption
        · cases hc
      cases hx with | pure hd =>
      cases hd
      exact fin _ _ (.stringIter s 0) (.inr ⟨rfl, s, 0, rfl, rfl, rfl⟩) (by simp [Instr.range, run_underlying hu])
  · simp [OR.fail] at h1
theorem born_find {es : Array MapEntry} {clk : Nat} (hb : Born es clk) {i : Nat} {e : MapEntry} (hi : es[i]? = some e) : es.find? (·.born == e.born) = some e := by
  rw [Array.find?_eq_some_iff_getElem]
  refine ⟨by simp, i, (Array.getElem?_eq_some_iff.1 hi).1, (Array.getElem?_eq_some_iff.1 hi).2, fun j hj => ?_⟩
  have hlt : j < es.size := by have := (Array.getElem?_eq_some_iff.1 hi).1; omega
  have := hb.2 j i es[j] e (Array.getElem?_eq_getElem hlt) hi hj
  simp; omega
theorem BRel.memI {w h L E A k b} (B : BRel w h L E A k b) (hm : b.isMap = true) (h2 : b.sh.length = 2) {mt rows seen u} (hr : b.rows = [[.it mt rows seen, u]]) : ∃ r o, E.m k = some r ∧ w.heap[r]? = some o ∧ b.isMp = false ∧ u = .undef ∧ ItIn w A mt rows seen o := by
  rcases B.mem with ⟨_, h, _⟩ | ⟨r, cs, T, _, _, _, _, h⟩ | ⟨r, es, clk, _, _, _, h, _⟩ | ⟨r, o, mt', rows', seen', g1, g2, _, g4, g5, g6⟩
  · rw [isMap_vec h] at hm; cases hm
  · rw [h] at hm; cases hm
  · simp [Blk.isMp, h2] at h
  · rw [hr] at g5
    simp only [List.cons.injEq, V.it.injEq, and_true] at g5
    obtain ⟨⟨rfl, rfl, rfl⟩, rfl⟩ := g5
    exact ⟨r, o, g1, g2, g4, rfl, g6⟩
theorem opEntry_ok {n0 A0 L w t h a E} (S : SRel n0 A0 L w t h a E) {id : Nat} {vx : V} {xx : Value} (hx : VRel w h L E (Ab n0 A0 w h E) vx xx) {v e fz}
    (h1 : opEntry P h vx = ⟨true, v, e, fz⟩) : OpOK P n0 A0 L w t h a id v e fz ((Instr.entry xx).run P w) := by
  unfold opEntry at h1
  split at h1
  · rename_i k
    split at h1
    · rename_i b hb
      split at h1
      · rename_i mt rows i seen u hrows
        split at h1
        · rename_i kt et hmt
          simp only [OR.if, OR.mk.injEq, Bool.and_eq_true] at h1
          obtain ⟨⟨⟨⟨⟨hm, hsh⟩, hlt⟩, hk1⟩, hv1⟩, rfl, rfl, rfl⟩ := h1
          rw [elemV_ok hk1, elemV_ok hv1]
          have hsh := Nat.eq_of_beq_eq_true hsh
          have hlt : i < rows.length := by simpa [Nat.blt_eq] using hlt
          refine OpOK.quiet S ?_
          cases hx with
          | pure hd => cases hd
          | ptr _ _ _ _ hL hx2 hh =>
          obtain ⟨_, r, hr, rfl⟩ := hh b hb
          obtain ⟨r', o, hr', ho, _, _, hin⟩ := (S.hb k b hb).memI hm hsh hrows
          rw [hr] at hr'; cases hr'
          rcases hin with ⟨_, ⟨_, _, h⟩ | ⟨m, es, clk, rfl, hAm, hes, hin, hseen⟩⟩ | ⟨_, _, _, _, _, h⟩
          rotate_right
          · cases h
          · cases h
          have hie : i < es.size := hseen i (by simp)
          have hei : es[i]? = some es[i] := Array.getElem?_eq_getElem hie
          obtain ⟨kv, vv, hrw, hkd, hvd⟩ := hin.rel i rows[i] _ (List.getElem?_eq_getElem hlt) hei
          have hg : rows.getD i [] = [kv, vv] := by rw [← hrw]; simp [List.getD_eq_getElem?_getD, hlt]
          rw [hg]
          refine ⟨.tuple #[es[i].key, es[i].val], ?_, .pure (.tup _ _ rfl fun j u x h1 h2 => ?_), rfl, rfl⟩
          · have hback : (((i :: seen).reverse.map fun i => (es.getD i default).born).toArray).back? = some es[i].born := by
              simp [Array.getD_eq_getD_getElem?, hei]
            have hfind := born_find hin.born hei
            simp only [Nat.zero_mul, Nat.zero_add] at *
            simp only [Instr.entry, Sem.run_bind, getObj, Sem.run, ho, Result.andThen_ok, hback, hes]
            simp [hfind]
          · match j with
            | 0 => simp at h1 h2; subst h1; subst h2; exact hkd
            | 1 => simp at h1 h2; subst h1; subst h2; exact hvd
            | j + 2 => simp at h1
        · simp [OR.fail] at h1
      · simp [OR.fail] at h1
    · simp [OR.fail] at h1
  · simp [OR.fail] at h1
theorem opNext_ok {n0 A0 L w t h a E} (S : SRel n0 A0 L w t h a E) {id : Nat} {vx : V} {xx : Value} {ty : TypeId} (hx : VRel w h L E (Ab n0 A0 w h E) vx xx) {v e fz}
    (h1 : opNext h vx = ⟨true, v, e, fz⟩) : OpOK P n0 A0 L w t h a id v e fz ((Instr.next xx true ty).run P w) := by
  unfold opNext at h1
  split at h1
  · rename_i k
    split at h1
    · rename_i b hb
      split at h1
      · rename_i s pos u hrows
        cases hc : b.isMap && Nat.beq b.sh.length 2 && !b.fr && decide (0 ≤ pos) with
        | false => simp [hc, OR.fail] at h1
        | true =>
          simp only [hc, cond_true] at h1
          simp only [Bool.and_eq_true, Bool.not_eq_true', decide_eq_true_eq] at hc
          obtain ⟨⟨⟨hm, hsh⟩, hfr⟩, _⟩ := hc
          have hsh := Nat.eq_of_beq_eq_true hsh
          cases hx with
          | pure hd => cases hd
          | ptr _ _ _ _ hL hx2 hh =>
          obtain ⟨_, r, hr, rfl⟩ := hh b hb
          obtain ⟨r', o, hr', ho, hmp, _, hin⟩ := (S.hb k b hb).memI hm hsh hrows
          rw [hr] at hr'; cases hr'
          rcases hin with ⟨h0, _⟩ | ⟨_, s', p, rfl, hrw, _⟩
          · exact absurd rfl h0
          simp only [List.cons.injEq, V.str.injEq, V.int.injEq, and_true, true_and] at hrw
          obtain ⟨rfl, rfl⟩ := hrw
          simp only [Nat.zero_mul, Nat.zero_add, Int.toNat_natCast] at *
          cases hlt : Nat.blt p s.size with
          | true =>
            simp only [hlt, cond_true, OR.mk.injEq] at h1
            obtain ⟨_, rfl, rfl, rfl⟩ := h1
            have hlt' : p < s.size := by simpa [Nat.blt_eq] using hlt
            have hrl := (Array.getElem?_eq_some_iff.1 ho).1
            have Sf := S.freeze []
            have hbf : (h.freeze []).get k = some b := by rw [Heap.get_freeze, hb]; simp
            have hrun : (Instr.next (.pointer (some ⟨r, 0, none⟩)) true ty).run P w = .ok (.tuple #[.bool true, .int .i64 (p : Int), .int .i32 (Utf8.decode s p).1]) { w with heap := w.heap.setIfInBounds r (.stringIter s (p + (Utf8.decode s p).2)) } := by
              simp [Instr.next, getObj, setObj, Sem.run, ho, hlt', goInt]
            have S' := Sf.putIt (w' := { w with heap := w.heap.setIfInBounds r (.stringIter s (p + (Utf8.decode s p).2)) }) (mt := 0) (rows := [[.str s, .int .i64 ((p + (Utf8.decode s p).2 : Nat) : Int)]]) (seen := []) (o := .stringIter s (p + (Utf8.decode s p).2)) hbf hfr hm hmp hsh (by rw [hrows]; rfl) hr ho (by simp [hrl]) (by simp) (fun q hq => by simp [Array.getElem?_setIfInBounds, Ne.symm hq]) (.inr ⟨rfl, s, _, rfl, rfl, rfl⟩)
            refine ⟨_, _, E, hrun, ⟨rfl, rfl, rfl, Nat.le_refl _, by simp, fun q hq => ?_⟩, S'.weaken (fun _ h => .inl h), .pure (.tup _ _ rfl fun j y x g1 g2 => ?_)⟩
            · have := (S.own k b r hb hr).1
              show (w.heap.setIfInBounds _ _)[q]? = _
              rw [Array.getElem?_setIfInBounds, if_neg (by omega)]
            · match j with
              | 0 => simp at g1 g2; subst g1; subst g2; exact .bool _
              | 1 => simp at g1 g2; subst g1; subst g2; exact .int _ _
              | 2 => simp at g1 g2; subst g1; subst g2; exact .int _ _
              | j + 3 => simp at g1
          | false =>
            simp only [hlt, cond_false, OR.val, OR.mk.injEq] at h1
            obtain ⟨_, rfl, rfl, rfl⟩ := h1
            have hlt' : ¬ p < s.size := fun hx => by rw [← Nat.blt_eq, hlt] at hx; cases hx
            refine OpOK.quiet S ⟨.tuple #[.bool false], ?_, .pure (.tup _ _ rfl fun j y x g1 g2 => ?_), rfl, rfl⟩
            · simp [Instr.next, getObj, Sem.run, ho, hlt']
            · match j with
              | 0 => simp at g1 g2; subst g1; subst g2; exact .bool _
              | j + 1 => simp at g1
      · simp [OR.fail] at h1
    · simp [OR.fail] at h1
  · simp [OR.fail] at h1
end
end Go.Vm
