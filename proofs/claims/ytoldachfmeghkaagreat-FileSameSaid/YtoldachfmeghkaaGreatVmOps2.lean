import Derived.Test.YtoldachfmeghkaaGreatVmOps
import Derived.Laws.BitsAll
namespace Go.Vm
theorem beqK_eq {a b : IntKind} (h : beqK a b = true) : a = b := by
  cases a <;> cases b <;> first | rfl | (simp [beqK, CK.beq] at h)
section
variable {P : Program}
theorem partV_sound {w : World} {VR : V → Value → Prop} {t : TypeId} {cs : List V} {xs : Array Value} {off : Nat} {v : V} (hl : cs.length = xs.size)
    (hc : ∀ (i : Nat) (v : V) (x : Value), cs[i]? = some v → xs[i]? = some x → VR v x)
    (hagg : ∀ (cs : List V) (xs : Array Value), cs.length = xs.size → (∀ (i : Nat) (v : V) (x : Value), cs[i]? = some v → xs[i]? = some x → VR v x) → VR (.agg cs) (.agg xs))
    (h1 : partV P t cs off = some v) : ∃ x, (Go.part t xs off).run P w = .ok x w ∧ VR v x := by
  unfold partV at h1
  cases hok : okT P t && Nat.ble (off + szOf P t) cs.length with
  | false => simp [hok] at h1
  | true =>
    simp only [hok, cond_true] at h1
    simp only [Bool.and_eq_true, Nat.ble_eq] at hok
    obtain ⟨hok, hle⟩ := hok
    cases ha : aggT P t with
    | true =>
      simp only [ha, cond_true, Option.some.injEq] at h1
      subst h1
      refine ⟨.agg (xs.extract off (off + szOf P t)), by simp [Go.part, run_isAgg hok, run_sizeOf hok, ha], hagg _ _ (by simp; omega) fun i v x hv hx => ?_⟩
      rw [List.getElem?_take] at hv
      split at hv
      · rw [List.getElem?_drop] at hv
        rw [Array.getElem?_extract] at hx
        split at hx
        · exact hc _ v x hv hx
        · cases hx
      · cases hv
    | false =>
      simp only [ha, cond_false] at h1
      split at h1
      · rename_i c hcs
        simp only [Option.some.injEq] at h1
        subst h1
        have h0 : cs[off]? = some c := by
          have := congrArg (fun l : List V => l[0]?) hcs
          simp only [List.getElem?_take, List.getElem?_drop] at this
          split at this
          · simpa using this
          · cases this
        have hlt : off < xs.size := by have := (List.getElem?_eq_some_iff.1 h0).1; omega
        refine ⟨xs[off], ?_, hc off c _ h0 (Array.getElem?_eq_getElem hlt)⟩
        simp [Go.part, run_isAgg hok, ha, Array.getElem?_eq_getElem hlt]
      · cases h1
theorem eqFs_sound {w : World} {VR : V → Value → Prop} (d : Nat) (rec : TypeId → V → V → Option Bool)
    (hrec : ∀ t x y xx yy b, VR x xx → VR y yy → rec t x y = some b → (Op.equalIn d t xx yy).run P w = .ok b w)
    (hagg : ∀ (cs : List V) (xs : Array Value), cs.length = xs.size → (∀ (i : Nat) (v : V) (x : Value), cs[i]? = some v → xs[i]? = some x → VR v x) → VR (.agg cs) (.agg xs))
    (xs ys : List V) (axs ays : Array Value) (hx1 : xs.length = axs.size) (hx2 : ∀ (i : Nat) (v : V) (x : Value), xs[i]? = some v → axs[i]? = some x → VR v x)
    (hy1 : ys.length = ays.size) (hy2 : ∀ (i : Nat) (v : V) (x : Value), ys[i]? = some v → ays[i]? = some x → VR v x) :
    ∀ (fs : List Field) (b : Bool), eqFs P rec xs ys fs = some b → (Op.eqFields d axs ays fs).run P w = .ok b w
  | [], b, h => by simp [eqFs] at h; subst h; simp [Op.eqFields]
  | f :: r, b, h => by
    simp only [eqFs] at h
    cases hn : (f.name == "_") with
    | true => simp [hn] at h
    | false =>
      simp only [hn, cond_false] at h
      split at h
      · rename_i a c ha hc
        split at h
        · rename_i p q hp hq
          obtain ⟨xa, hra, hva⟩ := partV_sound (w := w) hx1 hx2 hagg ha
          obtain ⟨xc, hrc, hvc⟩ := partV_sound (w := w) hy1 hy2 hagg hc
          have e1 := hrec _ _ _ _ _ _ hva hvc hp
          have e2 := eqFs_sound d rec hrec hagg xs ys axs ays hx1 hx2 hy1 hy2 r q hq
          simp only [Option.some.injEq] at h
          subst h
          have hne : f.name ≠ "_" := by simpa using hn
          simp only [Op.eqFields, hne, ne_eq, not_false_eq_true, if_true, Sem.run_bind, hra, hrc, e1, Result.andThen_ok]
          cases p
          · simp
          · simpa using e2
        · cases h
      · cases h
theorem eqT_sound {w : World} {A : Nat → Prop} {h : Heap} {L : Nat → Prop} {E : Emb} : ∀ (n d : Nat), n ≤ d → ∀ (t : TypeId) (x y : V) (xx yy : Value) (b : Bool), VRel w h L E A x xx → VRel w h L E A y yy → eqT P n t x y = some b →
    (Op.equalIn d t xx yy).run P w = .ok b w
  | 0, _, _, t, x, y, xx, yy, b, _, _, hb => by simp [eqT] at hb
  | n + 1, 0, hle, _, _, _, _, _, _, _, _, _ => by omega
  | n + 1, d + 1, hle, t, x, y, xx, yy, b, hx, hy, hb => by
    simp only [eqT] at hb
    split at hb
    · rename_i q k a k' c hu
      cases hx with | pure hx => cases hx with | int =>
      cases hy with | pure hy => cases hy with | int =>
      cases hk : beqK k k' with
      | false => simp [hk] at hb
      | true =>
        simp only [hk, cond_true, Option.some.injEq] at hb
        have := beqK_eq hk
        subst this; subst hb
        exact run_equalIn_int w d t k q a c hu
    · rename_i a c hu
      cases hx with | pure hx => cases hx with | bool =>
      cases hy with | pure hy => cases hy with | bool =>
      simp only [Option.some.injEq] at hb
      subst hb
      exact run_equalIn_bool' w d t a c hu
    · rename_i a c hu
      cases hx with | pure hx => cases hx with | str =>
      cases hy with | pure hy => cases hy with | str =>
      simp only [Option.some.injEq] at hb
      subst hb
      exact run_equalIn_string w d t a c hu
    · rename_i fs xs ys hu
      cases hp : P.stoodInHeld t with
      | true => simp [hp] at hb
      | false =>
        simp only [hp, cond_false] at hb
        have key : ∀ (cs : List V) (x : Value), VRel w h L E A (.agg cs) x → ∃ axs : Array Value, x = .agg axs ∧ cs.length = axs.size ∧ ∀ (i : Nat) (v : V) (x : Value), cs[i]? = some v → axs[i]? = some x → VRel w h L E A v x := by
          intro cs x hr
          cases hr with
          | pure hd => cases hd with | agg _ xs hl hc => exact ⟨xs, rfl, hl, fun i v x h1 h2 => .pure (hc i v x h1 h2)⟩
          | agg _ xs hl hc => exact ⟨xs, rfl, hl, hc⟩
        obtain ⟨axs, rfl, hx1, hx2⟩ := key xs _ hx
        obtain ⟨ays, rfl, hy1, hy2⟩ := key ys _ hy
        have hf : P.fieldsOf t = fs := by simp [Program.fieldsOf, hu]
        rw [run_equalIn_struct w d t axs ays (by rw [hf]; exact hu) hp, hf]
        exact eqFs_sound (VR := VRel w h L E A) d (eqT P n) (fun t x y xx yy b hx hy hb => eqT_sound n d (by omega) t x y xx yy b hx hy hb)
          (fun cs xs hl hc => .agg cs xs hl hc) xs ys axs ays hx1 hx2 hy1 hy2 fs.toList b hb
    · cases hb
theorem run_xor (k : IntKind) (a b : Int) (w : World) : (Op.intBits .xor k a b).run P w = .ok (.int k (intBits .xor k a b)) w := rfl
theorem boolT_iff {t : TypeId} (h : boolT P t = true) : P.underlying t = some .bool := by
  unfold boolT at h
  split at h
  · assumption
  · cases h
theorem run_equalIn_slnil (w : World) (d : Nat) {t el : TypeId} (hu : P.underlying t = some (.slice el)) (a : Option Addr) (n c : Nat) : (Op.equalIn (d + 1) t (.slice a n c) (.slice none 0 0)).run P w = .ok a.isNone w := by
  cases a <;> simp [Op.equalIn, run_underlying hu]
theorem run_eql_slnil (w : World) {t el : TypeId} (hu : P.underlying t = some (.slice el)) (ox oy : Operand) (a : Option Addr) (n c : Nat) : ((do eqGuard .eql t ox oy (.slice a n c) (.slice none 0 0); binOp .eql t (.slice a n c) (.slice none 0 0)) : Sem Value).run P w = .ok (.bool a.isNone) w := by
  have e1 : (binOp .eql t (.slice a n c) (.slice none 0 0)).run P w = ((Op.equalIn 10000 t (.slice a n c) (.slice none 0 0)).run P w).andThen fun b w' => .ok (.bool b) w' := by
    show (do pure (.bool (← Op.equalIn 10000 t (.slice a n c) (.slice none 0 0))) : Sem Value).run P w = _
    simp only [Sem.run_bind, Sem.run_pure]
  have e2 : (Op.equalIn 10000 t (.slice a n c) (.slice none 0 0)).run P w = .ok a.isNone w := run_equalIn_slnil (P := P) w 9999 hu a n c
  rw [e2, Result.andThen_ok] at e1
  have g : (eqGuard .eql t ox oy (.slice a n c) (.slice none 0 0)).run P w = .ok () w := by simp [eqGuard]
  rw [Sem.run_bind, g, Result.andThen_ok]
  exact e1
theorem run_neq_slnil (w : World) {t el : TypeId} (hu : P.underlying t = some (.slice el)) (ox oy : Operand) (a : Option Addr) (n c : Nat) : ((do eqGuard .neq t ox oy (.slice a n c) (.slice none 0 0); binOp .neq t (.slice a n c) (.slice none 0 0)) : Sem Value).run P w = .ok (.bool !a.isNone) w := by
  have e1 : (binOp .neq t (.slice a n c) (.slice none 0 0)).run P w = ((Op.equalIn 10000 t (.slice a n c) (.slice none 0 0)).run P w).andThen fun b w' => .ok (.bool !b) w' := by
    show (do pure (.bool (!(← Op.equalIn 10000 t (.slice a n c) (.slice none 0 0)))) : Sem Value).run P w = _
    simp only [Sem.run_bind, Sem.run_pure]
  have e2 : (Op.equalIn 10000 t (.slice a n c) (.slice none 0 0)).run P w = .ok a.isNone w := run_equalIn_slnil (P := P) w 9999 hu a n c
  rw [e2, Result.andThen_ok] at e1
  have g : (eqGuard .neq t ox oy (.slice a n c) (.slice none 0 0)).run P w = .ok () w := by simp [eqGuard]
  rw [Sem.run_bind, g, Result.andThen_ok]
  exact e1
theorem opBin_sound {w h L E A} {op : BinOp} {t : TypeId} {ox oy : Operand} {vx vy : V} {xx xy : Value} {v e fz} (hx : VRel w h L E A vx xx) (hy : VRel w h L E A vy xy)
    (h1 : opBin P op t vx vy = ⟨true, v, e, fz⟩) :
    ∃ x, (do eqGuard op t ox oy xx xy; binOp op t xx xy : Sem Value).run P w = .ok x w ∧ VRel w h L E A v x ∧ e = .none ∧ fz = [] := by
  unfold opBin at h1
  split at h1
  · rename_i k a k' b
    cases hx with | pure hx => cases hx with | int =>
    cases hy with | pure hy => cases hy with | int =>
    split at h1
    · simp only [OR.if, OR.mk.injEq, decide_eq_true_eq] at h1
      obtain ⟨hb, rfl, rfl, rfl⟩ := h1
      refine ⟨_, ?_, .pure (.int _ _), rfl, rfl⟩
      have : ¬ b < 0 := by omega
      simp [eqGuard, binOp, Op.shift, this]
    · simp only [OR.if, OR.mk.injEq, decide_eq_true_eq] at h1
      obtain ⟨hb, rfl, rfl, rfl⟩ := h1
      refine ⟨_, ?_, .pure (.int _ _), rfl, rfl⟩
      have : ¬ b < 0 := by omega
      simp [eqGuard, binOp, Op.shift, this]
    · rename_i hshl hshr
      cases hk : beqK k k' with
      | false => simp [hk, OR.fail] at h1
      | true =>
        have := beqK_eq hk
        subst this
        simp only [hk, cond_true] at h1
        cases op <;> simp only [OR.val, OR.if, OR.fail, OR.mk.injEq, Bool.false_eq_true, false_and, true_and, bne_iff_ne, ne_eq] at h1 <;>
          first
          | (exact absurd rfl hshl)
          | (exact absurd rfl hshr)
          | (obtain ⟨hb, rfl, rfl, rfl⟩ := h1
             refine ⟨_, ?_, .pure (.int _ _), rfl, rfl⟩
             simp [eqGuard, binOp, Op.intDiv, hb])
          | (obtain ⟨rfl, rfl, rfl⟩ := h1
             first
             | (refine ⟨_, ?_, .pure (.int _ _), rfl, rfl⟩; first | (simp [eqGuard, binOp, Op.intArith]; done) | (simp [eqGuard, binOp]; rfl))
             | (refine ⟨_, ?_, .pure (.bool _), rfl, rfl⟩; simp [eqGuard, binOp, Op.intCmp]))
  · rename_i a b
    cases hx with | pure hx => cases hx with | bool =>
    cases hy with | pure hy => cases hy with | bool =>
    split at h1
    · cases hq : boolT P t with
      | false => simp [hq, OR.fail] at h1
      | true =>
        simp only [hq, cond_true, OR.val, OR.mk.injEq] at h1
        obtain ⟨_, rfl, rfl, rfl⟩ := h1
        exact ⟨_, by simp [eqGuard, run_eql_bool w t a b (boolT_iff hq)], .pure (.bool _), rfl, rfl⟩
    · cases hq : boolT P t with
      | false => simp [hq, OR.fail] at h1
      | true =>
        simp only [hq, cond_true, OR.val, OR.mk.injEq] at h1
        obtain ⟨_, rfl, rfl, rfl⟩ := h1
        exact ⟨_, by simp [eqGuard, run_neq_bool w t a b (boolT_iff hq)], .pure (.bool _), rfl, rfl⟩
    · simp [OR.fail] at h1
  · rename_i a b
    cases hx with | pure hx => cases hx with | str =>
    cases hy with | pure hy => cases hy with | str =>
    split at h1
    · simp only [OR.val, OR.mk.injEq] at h1
      obtain ⟨_, rfl, rfl, rfl⟩ := h1
      exact ⟨_, by simp [eqGuard, binOp, Op.stringOp], .pure (.bool _), rfl, rfl⟩
    · simp only [OR.val, OR.mk.injEq] at h1
      obtain ⟨_, rfl, rfl, rfl⟩ := h1
      exact ⟨_, by simp [eqGuard, binOp, Op.stringOp], .pure (.bool _), rfl, rfl⟩
    · simp [OR.fail] at h1
  · rename_i sh r sh'
    cases hy with
    | pure hd => cases hd
    | nils =>
    cases hx with | pure hd =>
    have hsl : slT P t = true → ∃ el, P.underlying t = some (.slice el) := fun h => by
      unfold slT at h
      split at h
      · rename_i el hu; exact ⟨el, hu⟩
      · cases h
    split at h1
    · simp only [OR.if, OR.mk.injEq] at h1
      obtain ⟨hq, rfl, rfl, rfl⟩ := h1
      obtain ⟨el, hu⟩ := hsl hq
      cases hd with
      | none _ a cap =>
        exact ⟨_, run_eql_slnil w hu ox oy a 0 cap, .pure (.unk _), rfl, rfl⟩
      | data _ rows b off cap f hA hcap hf hm hc =>
        refine ⟨_, run_eql_slnil w hu ox oy _ _ cap, ?_, rfl, rfl⟩
        cases r with
        | nil => exact .pure (.unk _)
        | cons => exact .pure (.bool _)
    · simp only [OR.if, OR.mk.injEq] at h1
      obtain ⟨hq, rfl, rfl, rfl⟩ := h1
      obtain ⟨el, hu⟩ := hsl hq
      cases hd with
      | none _ a cap =>
        exact ⟨_, run_neq_slnil w hu ox oy a 0 cap, .pure (.unk _), rfl, rfl⟩
      | data _ rows b off cap f hA hcap hf hm hc =>
        refine ⟨_, run_neq_slnil w hu ox oy _ _ cap, ?_, rfl, rfl⟩
        cases r with
        | nil => exact .pure (.unk _)
        | cons => exact .pure (.bool _)
    · simp [OR.fail] at h1
  · rename_i a b
    have key : ∀ (cs : List V) (x : Value), VRel w h L E A (.agg cs) x → ∃ axs : Array Value, x = .agg axs := by
      intro cs x hr
      cases hr with
      | pure hd => cases hd with | agg _ xs hl hc => exact ⟨xs, rfl⟩
      | agg _ xs hl hc => exact ⟨xs, rfl⟩
    obtain ⟨axs, rfl⟩ := key _ _ hx
    obtain ⟨ays, rfl⟩ := key _ _ hy
    split at h1
    · cases hg : P.eqGuardType P.depth t with
      | true => simp [hg, OR.fail] at h1
      | false =>
        simp only [hg, cond_false] at h1
        split at h1
        · rename_i q hq
          simp only [OR.val, OR.mk.injEq] at h1
          obtain ⟨_, rfl, rfl, rfl⟩ := h1
          have := eqT_sound (P := P) 8 10000 (by omega) t _ _ _ _ q hx hy hq
          exact ⟨_, by simp [run_eqGuard_agg (P := P) w .eql t ox oy axs ays hg, run_eql_struct, this], .pure (.bool _), rfl, rfl⟩
        · simp [OR.fail] at h1
    · cases hg : P.eqGuardType P.depth t with
      | true => simp [hg, OR.fail] at h1
      | false =>
        simp only [hg, cond_false] at h1
        split at h1
        · rename_i q hq
          simp only [OR.val, OR.mk.injEq] at h1
          obtain ⟨_, rfl, rfl, rfl⟩ := h1
          have := eqT_sound (P := P) 8 10000 (by omega) t _ _ _ _ q hx hy hq
          exact ⟨_, by simp [run_eqGuard_agg (P := P) w .neq t ox oy axs ays hg, run_neq_struct, this], .pure (.bool _), rfl, rfl⟩
        · simp [OR.fail] at h1
    · simp [OR.fail] at h1
  · simp [OR.fail] at h1
theorem opUn_sound {w h L E A} {op : UnOp} {vx : V} {xx : Value} {v e fz} (hx : VRel w h L E A vx xx) (h1 : opUn op vx = ⟨true, v, e, fz⟩) :
    ∃ x, (Op.unary op xx).run P w = .ok x w ∧ VRel w h L E A v x ∧ e = .none ∧ fz = [] := by
  unfold opUn at h1
  split at h1
  · cases hx with | pure hx => cases hx with | int =>
    simp only [OR.val, OR.mk.injEq] at h1
    obtain ⟨_, rfl, rfl, rfl⟩ := h1
    exact ⟨_, by simp [Op.unary, Op.intArith], .pure (.int _ _), rfl, rfl⟩
  · rename_i k n
    cases hx with | pure hx => cases hx with | int =>
    simp only [OR.val, OR.mk.injEq] at h1
    obtain ⟨_, rfl, rfl, rfl⟩ := h1
    refine ⟨_, ?_, .pure (.int _ _), rfl, rfl⟩
    cases hs : k.signed <;> simp [Op.unary, hs, run_xor]
  · cases hx with | pure hx => cases hx with | bool =>
    simp only [OR.val, OR.mk.injEq] at h1
    obtain ⟨_, rfl, rfl, rfl⟩ := h1
    exact ⟨_, by simp [Op.unary], .pure (.bool _), rfl, rfl⟩
  · simp [OR.fail] at h1
theorem sel_sound {w h L E A} {q : Bool} {vx vy : V} {xx xy : Value} {v e fz} (hx : q = true → VRel w h L E A vx xx) (hy : q = false → VRel w h L E A vy xy)
    (h1 : V.sel q vx vy = ⟨true, v, e, fz⟩) : VRel w h L E A v (if q then xx else xy) ∧ e = .none ∧ fz = [] := by
  unfold V.sel at h1
  split at h1
  · simp only [OR.if, OR.mk.injEq] at h1
    obtain ⟨hk, rfl, rfl, rfl⟩ := h1
    have := beqK_eq hk
    subst this
    cases q
    · cases hy rfl with | pure hy => cases hy with | int => exact ⟨.pure (.int _ _), rfl, rfl⟩
    · cases hx rfl with | pure hx => cases hx with | int => exact ⟨.pure (.int _ _), rfl, rfl⟩
  · simp only [OR.val, OR.mk.injEq] at h1
    obtain ⟨_, rfl, rfl, rfl⟩ := h1
    cases q
    · cases hy rfl with | pure hy => cases hy with | bool => exact ⟨.pure (.bool _), rfl, rfl⟩
    · cases hx rfl with | pure hx => cases hx with | bool => exact ⟨.pure (.bool _), rfl, rfl⟩
  · simp only [OR.if, OR.mk.injEq, Bool.not_eq_true'] at h1
    obtain ⟨rfl, rfl, rfl, rfl⟩ := h1
    exact ⟨by simpa using hy rfl, rfl, rfl⟩
  · simp only [OR.if, OR.mk.injEq] at h1
    obtain ⟨rfl, rfl, rfl, rfl⟩ := h1
    exact ⟨by simpa using hx rfl, rfl, rfl⟩
  · simp only [OR.if, OR.mk.injEq, Bool.not_eq_true'] at h1
    obtain ⟨rfl, rfl, rfl, rfl⟩ := h1
    exact ⟨by simpa using hy rfl, rfl, rfl⟩
  · simp only [OR.if, OR.mk.injEq] at h1
    obtain ⟨rfl, rfl, rfl, rfl⟩ := h1
    exact ⟨by simpa using hx rfl, rfl, rfl⟩
  · simp [OR.fail] at h1
theorem aggR {w h L E A} {cs : List V} {x : Value} (hr : VRel w h L E A (.agg cs) x) : ∃ axs : Array Value, x = .agg axs ∧ cs.length = axs.size ∧ ∀ (i : Nat) (v : V) (x : Value), cs[i]? = some v → axs[i]? = some x → VRel w h L E A v x := by
  cases hr with
  | pure hd => cases hd with | agg _ xs hl hc => exact ⟨xs, rfl, hl, fun i v x h1 h2 => .pure (hc i v x h1 h2)⟩
  | agg _ xs hl hc => exact ⟨xs, rfl, hl, hc⟩
theorem tupR {w h L E A} {cs : List V} {x : Value} (hr : VRel w h L E A (.tup cs) x) : ∃ axs : Array Value, x = .tuple axs ∧ cs.length = axs.size ∧ ∀ (i : Nat) (v : V) (x : Value), cs[i]? = some v → axs[i]? = some x → VRel w h L E A v x := by
  cases hr with
  | pure hd => cases hd with | tup _ xs hl hc => exact ⟨xs, rfl, hl, fun i v x h1 h2 => .pure (hc i v x h1 h2)⟩
  | tup _ xs hl hc => exact ⟨xs, rfl, hl, hc⟩
theorem opField_sound {w h L E A} {s : TypeId} {vx : V} {xx : Value} {f : Nat} {v e fz} (hx : VRel w h L E A vx xx) (h1 : opField P s vx f = ⟨true, v, e, fz⟩) :
    ∃ x, (Instr.field s xx f).run P w = .ok x w ∧ VRel w h L E A v x ∧ e = .none ∧ fz = [] := by
  unfold opField fieldOf at h1
  split at h1
  · rename_i fl cs hfl
    split at hfl
    · rename_i fs hu
      obtain ⟨axs, rfl, hl, hc⟩ := aggR hx
      unfold Vm.part at h1
      split at h1
      · rename_i u hu2
        simp only [OR.val, OR.mk.injEq] at h1
        obtain ⟨_, rfl, rfl, rfl⟩ := h1
        obtain ⟨x, hr, hv⟩ := partV_sound (w := w) (VR := VRel w h L E A) hl hc (fun cs xs hl hc => .agg cs xs hl hc) hu2
        exact ⟨x, by simp [Instr.field, run_underlying hu, hfl, asAgg, hr], hv, rfl, rfl⟩
      · simp [OR.fail] at h1
    · cases hfl
  · simp [OR.fail] at h1
theorem selCells_sound {w h L E A} {q : Bool} : ∀ (a b r : List V) (xa xb : List Value), (q = true → Rw (VRel w h L E A) a xa) → (q = false → Rw (VRel w h L E A) b xb) → xa.length = xb.length → a.length = xa.length → selCells q a b = some r →
    Rw (VRel w h L E A) r (if q then xa else xb)
  | [], [], r, xa, xb, _, _, hl, h1, h2 => by
    simp only [selCells, Option.some.injEq] at h2
    subst h2
    have h3 : xa = [] := List.length_eq_zero_iff.1 h1.symm
    have h4 : xb = [] := List.length_eq_zero_iff.1 (by rw [← hl, h3]; rfl)
    subst h3; subst h4
    refine ⟨by simp, fun i v x h _ => by simp at h⟩
  | v :: l, u :: m, r, xa, xb, ha, hb, hl, h1, h2 => by
    simp only [selCells] at h2
    split at h2
    · rename_i c e fz s hs hr
      simp only [Option.some.injEq] at h2
      subst h2
      match xa, xb, hl, h1 with
      | x :: xl, y :: yl, hl, h1 =>
        have hv := sel_sound (w := w) (h := h) (L := L) (E := E) (A := A) (xx := x) (xy := y) (fun hq => (ha hq).2 0 v x rfl rfl) (fun hq => (hb hq).2 0 u y rfl rfl) hs
        have ih := selCells_sound l m s xl yl (fun hq => ⟨by simpa using (ha hq).1, fun i v x h1 h2 => (ha hq).2 (i + 1) v x (by simpa using h1) (by simpa using h2)⟩)
          (fun hq => ⟨by simpa using (hb hq).1, fun i v x h1 h2 => (hb hq).2 (i + 1) v x (by simpa using h1) (by simpa using h2)⟩) (by simpa using hl) (by simpa using h1) hr
        have e : (if q = true then x :: xl else y :: yl) = (if q = true then x else y) :: (if q = true then xl else yl) := by cases q <;> rfl
        rw [e]
        refine ⟨by simp [ih.1], fun i v' x' h1 h2 => ?_⟩
        cases i with
        | zero => simp only [List.getElem?_cons_zero, Option.some.injEq] at h1 h2; subst h1; subst h2; exact hv.1
        | succ i => exact ih.2 i v' x' (by simpa using h1) (by simpa using h2)
    · cases h2
  | [], _ :: _, r, _, _, _, _, _, _, h2 => by simp [selCells] at h2
  | _ :: _, [], r, _, _, _, _, _, _, h2 => by simp [selCells] at h2
end
end Go.Vm
