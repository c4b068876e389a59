import Derived.Test.YtoldachfmeghkaaGreatVmAny3
set_option linter.unusedVariables false
namespace Go.Vm
section
variable {P : Program} {L : Nat → Prop}
theorem inL_nil {v : V} (h : V.refs v = []) : InL L v := by intro k hk; rw [h] at hk; cases hk
theorem inL_undef : InL L .undef := inL_nil rfl
theorem refsL_in {l : List V} (h : ∀ v ∈ l, InL L v) : ∀ k ∈ V.refsL l, L k := by
  intro k hk
  obtain ⟨v, hv, hk⟩ := refsL_mem hk
  exact h v hv k hk
theorem in_refsL {l : List V} (h : ∀ k ∈ V.refsL l, L k) : ∀ v ∈ l, InL L v := fun v hv k hk => h k (mem_refsL hv hk)
def VI (L : Nat → Prop) (r : OR) : Prop := InL L r.v
theorem vi_val {v : V} (h : InL L v) : VI L (.val v) := h
theorem vi_if {c : Bool} {v : V} (h : InL L v) : VI L (.if c v) := h
theorem vi_fail : VI L .fail := inL_undef
theorem vi_cond (c : Bool) {x y : OR} (hx : VI L x) (hy : VI L y) : VI L (bif c then x else y) := by cases c <;> assumption
theorem vi_sel (q : Bool) (x y : V) : VI L (V.sel q x y) := by
  unfold V.sel; split <;> first | exact inL_nil rfl
theorem vi_bin (op : BinOp) (t : TypeId) (x y : V) : VI L (opBin P op t x y) := by
  unfold opBin
  split
  · split
    · exact inL_nil rfl
    · exact inL_nil rfl
    · refine vi_cond _ ?_ vi_fail
      split <;> exact inL_nil rfl
  · split <;> first | exact vi_cond _ (inL_nil rfl) vi_fail | exact vi_fail
  · split <;> exact inL_nil rfl
  · split
    · refine vi_if ?_; split <;> exact inL_nil rfl
    · refine vi_if ?_; split <;> exact inL_nil rfl
    · exact vi_fail
  · split <;> first | (refine vi_cond _ vi_fail ?_; split <;> exact inL_nil rfl) | exact vi_fail
  · exact vi_fail
theorem vi_un (op : UnOp) (x : V) : VI L (opUn op x) := by
  unfold opUn; split <;> exact inL_nil rfl
theorem vi_out (t : TypeId) (cs : List V) (h : ∀ k ∈ V.refsL cs, L k) : VI L (outV P t cs) := by
  unfold outV
  refine vi_cond _ ?_ ?_
  · intro k hk; rw [show (OR.val (V.agg cs)).v = .agg cs from rfl, V.refs] at hk; exact h k hk
  · split
    · rename_i c; exact in_refsL h c (by simp)
    · exact vi_fail
theorem typed_refs (c : CK) (v : V) : V.refs (c.typed v) = [] := by cases c <;> rfl
theorem typedL_refs : ∀ (sh : List CK) (j : Nat) (row : List V), V.refsL (typedL j sh row) = []
  | [], _, _ => rfl
  | c :: l, j, r => by rw [typedL, V.refsL, typed_refs, typedL_refs l]; rfl
theorem sub_refsL {l l' : List V} (hs : ∀ v ∈ l', v ∈ l) (h : ∀ k ∈ V.refsL l, L k) : ∀ k ∈ V.refsL l', L k :=
  refsL_in fun v hv => in_refsL h v (hs v hv)
theorem dt_sub {l : List V} {a b : Nat} : ∀ v ∈ (l.drop a).take b, v ∈ l := fun v hv => List.mem_of_mem_drop (List.mem_of_mem_take hv)
theorem vi_load (t : TypeId) {h : Heap} (hh : HL L h) (a : V) : VI L (opLoad P t h a) := by
  unfold opLoad
  split
  · split
    · rename_i b hb
      refine vi_cond _ (vi_out _ _ ?_) vi_fail
      cases hv : b.vec with
      | true => simp only [cond_true]; rw [typedL_refs]; intro k hk; cases hk
      | false => simp only [cond_false]; exact sub_refsL dt_sub (hh.row hb hv)
    · exact vi_fail
  · refine vi_cond _ (vi_out _ _ ?_) vi_fail
    rw [typedL_refs]; intro k hk; cases hk
  · exact vi_fail
theorem vi_fieldAddr (s : TypeId) (h : Heap) {a : V} (f : Nat) (ha : InL L a) : VI L (opFieldAddr P s h a f) := by
  unfold opFieldAddr
  split
  · refine vi_cond _ vi_fail ?_
    split
    · exact vi_if fun k hk => ha k (by simpa [V.refs] using hk)
    · exact inL_nil rfl
    · exact vi_fail
  · exact vi_fail
theorem vi_indexAddr (t : TypeId) (h : Heap) {a : V} (i : V) (ha : InL L a) : VI L (opIndexAddr P t h a i) := by
  unfold opIndexAddr
  split
  · split
    · exact vi_cond _ (inL_nil rfl) vi_fail
    · split
      · exact vi_cond _ (vi_if fun k hk => ha k (by simpa [V.refs] using hk)) vi_fail
      · exact vi_fail
    · split
      · exact vi_cond _ (vi_if fun k hk => ha k (by simpa [V.refs] using hk)) vi_fail
      · exact vi_fail
    · split
      · exact vi_if fun k hk => ha k (by simpa [V.refs] using hk)
      · exact vi_fail
    · split <;> exact inL_nil rfl
    · exact vi_fail
  · exact vi_fail
theorem vi_len (t : TypeId) (h : Heap) (a : V) : VI L (opLen P t h a) := by
  unfold opLen
  split
  · split
    · exact inL_nil rfl
    · exact inL_nil rfl
    · split
      · exact vi_cond _ (inL_nil rfl) vi_fail
      · exact vi_fail
    · split
      · exact vi_cond _ (inL_nil rfl) vi_fail
      · exact vi_fail
    · exact vi_fail
  · split <;> exact inL_nil rfl
  · exact inL_nil rfl
  · split <;> exact inL_nil rfl
  · exact vi_fail
theorem part_in {t : TypeId} {cs : List V} {off : Nat} {v : V} (h : ∀ k ∈ V.refsL cs, L k) (hp : partV P t cs off = some v) : InL L v := by
  unfold partV at hp
  revert hp
  cases okT P t && Nat.ble (off + szOf P t) cs.length with
  | false => intro hp; cases hp
  | true =>
    simp only [cond_true]
    cases aggT P t with
    | true =>
      simp only [cond_true, Option.some.injEq]
      rintro rfl
      intro k hk; rw [V.refs] at hk
      exact sub_refsL dt_sub h k hk
    | false =>
      simp only [cond_false]
      intro hp
      split at hp
      · rename_i c hc
        cases hp
        have : v ∈ (cs.drop off).take (szOf P t) := by rw [hc]; simp
        exact in_refsL h v (dt_sub v this)
      · cases hp
theorem agg_in {cs : List V} (h : InL L (.agg cs)) : ∀ k ∈ V.refsL cs, L k := fun k hk => h k (by rw [V.refs]; exact hk)
theorem vi_field (s : TypeId) {a : V} (f : Nat) (ha : InL L a) : VI L (opField P s a f) := by
  unfold opField
  split
  · unfold Vm.part
    split
    · rename_i hp; exact part_in (agg_in ha) hp
    · exact vi_fail
  · exact vi_fail
theorem selCells_in : ∀ (q : Bool) (a b s : List V), selCells q a b = some s → ∀ v ∈ s, InL L v
  | q, [], [], s, h, v, hv => by simp [selCells] at h; subst h; cases hv
  | q, a :: l, b :: r, s, h, v, hv => by
    unfold selCells at h
    split at h
    · rename_i w _ _ s' hw hs
      cases h
      rcases List.mem_cons.1 hv with rfl | hv
      · have := vi_sel (L := L) q a b; rw [hw] at this; exact this
      · exact selCells_in q l r s' hs v hv
    · cases h
  | q, [], _ :: _, s, h, v, hv => by simp [selCells] at h
  | q, _ :: _, [], s, h, v, hv => by simp [selCells] at h
theorem selRows_in (i : Int) : ∀ (j : Nat) (rs : List (List V)) (s : List V), selRows i j rs = some s → (∀ r ∈ rs, ∀ v ∈ r, InL L v) → ∀ v ∈ s, InL L v
  | j, [], s, h, hr, v, hv => by simp [selRows] at h
  | j, [r], s, h, hr, v, hv => by simp [selRows] at h; subst h; exact hr _ (by simp) v hv
  | j, r :: r2 :: l, s, h, hr, v, hv => by
    unfold selRows at h
    split at h
    · exact selCells_in _ _ _ _ h v hv
    · cases h
theorem chunks_in (z : Nat) : ∀ (n : Nat) (cs : List V), (∀ v ∈ cs, InL L v) → ∀ r ∈ chunks z n cs, ∀ v ∈ r, InL L v
  | 0, cs, h, r, hr, v, hv => by simp [chunks] at hr
  | n + 1, cs, h, r, hr, v, hv => by
    simp only [chunks, List.mem_cons] at hr
    rcases hr with rfl | hr
    · exact h v (List.mem_of_mem_take hv)
    · exact chunks_in z n _ (fun v hv => h v (List.mem_of_mem_drop hv)) r hr v hv
theorem vi_index (t : TypeId) {a : V} (i : V) (ha : InL L a) : VI L (opIndex P t a i) := by
  unfold opIndex
  split
  · split
    · refine vi_cond _ ?_ vi_fail
      split
      · rename_i r hr
        exact vi_if (vi_out (P := P) (L := L) _ r (refsL_in (selRows_in _ _ _ _ hr (chunks_in _ _ _ (in_refsL (agg_in ha))))))
      · exact vi_fail
    · exact vi_fail
  · exact inL_nil rfl
  · exact vi_fail
theorem setCells_in : ∀ (l : List V) (j : Nat) (r : List V), (∀ v ∈ l, InL L v) → (∀ v ∈ r, InL L v) → ∀ v ∈ setCells l j r, InL L v
  | l, j, [], h1, h2 => h1
  | l, j, u :: r, h1, h2 => by
    rw [setCells]
    refine setCells_in _ _ r (fun v hv => ?_) fun v hv => h2 v (List.mem_cons_of_mem _ hv)
    rcases List.mem_or_eq_of_mem_set hv with hv | rfl
    · exact h1 v hv
    · exact h2 _ (by simp)
theorem zeroV_in (t : TypeId) : ∀ v ∈ zeroV P t, InL L v := by
  have : ∀ (a : List CK) (b : List Value), ∀ v ∈ zipZero a b, InL L v := by
    intro a
    induction a with
    | nil => intro b v hv; cases b <;> simp [zipZero] at hv
    | cons c l ih =>
      intro b v hv
      cases b with
      | nil => simp [zipZero] at hv
      | cons x r =>
        simp only [zipZero, List.mem_cons] at hv
        rcases hv with rfl | hv
        · apply inL_nil
          unfold zeroCell
          split <;> first | rfl | (cases CK.beq _ _ <;> rfl)
        · exact ih r v hv
  unfold zeroV
  exact this _ _
theorem fillParts_in (z : Nat) : ∀ (ps : List (Nat × Nat × V)) (cs s : List V), fillParts z cs ps = some s → (∀ v ∈ cs, InL L v) → (∀ p ∈ ps, InL L p.2.2) → ∀ v ∈ s, InL L v
  | [], cs, s, h, h1, h2 => by simp [fillParts] at h; subst h; exact h1
  | (off, w, u) :: r, cs, s, h, h1, h2 => by
    unfold fillParts at h
    revert h
    cases V.whole u && Nat.beq (V.cells u).length w && Nat.ble (off + w) z with
    | false => intro h; cases h
    | true =>
      simp only [cond_true]
      intro h
      refine fillParts_in z r _ s h (setCells_in _ _ _ h1 ?_) fun p hp => h2 p (List.mem_cons_of_mem _ hp)
      exact in_refsL (cells_inL (h2 (off, w, u) (by simp)))
theorem vi_build (t : TypeId) (ps : List (Nat × V)) (hp : ∀ p ∈ ps, InL L p.2) : VI L (opBuild P t ps) := by
  unfold opBuild
  split
  · simp only
    split
    · rename_i cs hc
      refine vi_cond _ (vi_val ?_) vi_fail
      have := fillParts_in (L := L) _ _ _ _ hc (zeroV_in t) (fun p hpm => ?_)
      · intro k hk; rw [V.refs] at hk; exact refsL_in this k hk
      · obtain ⟨q, hq, rfl⟩ := List.mem_map.1 hpm
        obtain ⟨i, v⟩ := q
        simp only
        split
        · exact hp (i, v) hq
        · exact inL_undef
    · exact vi_fail
  · split
    · rename_i cs hc
      refine vi_cond _ (vi_val ?_) vi_fail
      have := fillParts_in (L := L) _ _ _ _ hc (zeroV_in t) (fun p hpm => ?_)
      · intro k hk; rw [V.refs] at hk; exact refsL_in this k hk
      · obtain ⟨q, hq, rfl⟩ := List.mem_map.1 hpm
        exact hp q hq
    · exact vi_fail
  · exact vi_fail
theorem vi_convert (s d : TypeId) (h : Heap) (a : V) : VI L (opConvert P s d h a) := by
  unfold opConvert
  split
  · split <;> exact inL_nil rfl
  · split
    · split <;> exact inL_nil rfl
    · exact vi_fail
  · exact vi_fail
theorem vi_min : ∀ (k : IntKind) (x : Int) (l : List V), VI L (minL k x l)
  | _, _, [] => inL_nil rfl
  | k, x, .int _ y :: r => vi_min k _ r
  | _, _, .undef :: _ => vi_fail
  | _, _, .bool _ :: _ => vi_fail
  | _, _, .str _ :: _ => vi_fail
  | _, _, .agg _ :: _ => vi_fail
  | _, _, .tup _ :: _ => vi_fail
  | _, _, .nils _ :: _ => vi_fail
  | _, _, .nilp :: _ => vi_fail
  | _, _, .data _ _ :: _ => vi_fail
  | _, _, .pdat _ _ _ :: _ => vi_fail
  | _, _, .vs _ :: _ => vi_fail
  | _, _, .sub _ _ _ :: _ => vi_fail
  | _, _, .ptr _ _ _ :: _ => vi_fail
  | _, _, .fn _ _ :: _ => vi_fail
  | _, _, .mp _ :: _ => vi_fail
  | _, _, .mdat _ :: _ => vi_fail
  | _, _, .unk :: _ => vi_fail
  | _, _, .it _ _ _ :: _ => vi_fail
  | _, _, .gd _ _ _ :: _ => vi_fail
theorem vi_max : ∀ (k : IntKind) (x : Int) (l : List V), VI L (maxL k x l)
  | _, _, [] => inL_nil rfl
  | k, x, .int _ y :: r => vi_max k _ r
  | _, _, .undef :: _ => vi_fail
  | _, _, .bool _ :: _ => vi_fail
  | _, _, .str _ :: _ => vi_fail
  | _, _, .agg _ :: _ => vi_fail
  | _, _, .tup _ :: _ => vi_fail
  | _, _, .nils _ :: _ => vi_fail
  | _, _, .nilp :: _ => vi_fail
  | _, _, .data _ _ :: _ => vi_fail
  | _, _, .pdat _ _ _ :: _ => vi_fail
  | _, _, .vs _ :: _ => vi_fail
  | _, _, .sub _ _ _ :: _ => vi_fail
  | _, _, .ptr _ _ _ :: _ => vi_fail
  | _, _, .fn _ _ :: _ => vi_fail
  | _, _, .mp _ :: _ => vi_fail
  | _, _, .mdat _ :: _ => vi_fail
  | _, _, .unk :: _ => vi_fail
  | _, _, .it _ _ _ :: _ => vi_fail
  | _, _, .gd _ _ _ :: _ => vi_fail
def Eff.blk : Eff → Option Blk
  | .none => Option.none
  | .new b | .put _ b | .app _ b => some b
structure ResIn (L : Nat → Prop) (id : Nat) (v : V) (e : Eff) : Prop where
  v : InL (fun k => L k ∨ k = id) v
  b : ∀ b, e.blk = some b → b.vec = false → ∀ row ∈ b.rows, ∀ v ∈ row, InL L v
  p : ∀ k b, e = .put k b → L k
theorem ResIn.of {id : Nat} {r : OR} (hq : Q0 r) (hv : VI L r) {v e fz} (hr : r = ⟨true, v, e, fz⟩) : ResIn L id v e := by
  subst hr
  obtain ⟨h1, h2⟩ := hq
  simp only at h1
  subst h1
  exact ⟨fun k hk => .inl (hv k hk), (fun b hb => by cases hb), fun k b hb => by cases hb⟩
theorem ResIn.vec {id : Nat} {e : Eff} {b : Blk} (h : e.blk = some b) (hv : b.vec = true) (hp : ∀ k b, e ≠ .put k b) : ResIn L id (.vs id) e :=
  ⟨fun k hk => .inr (by simpa [V.refs] using hk), fun b' hb => by rw [h] at hb; cases hb; intro h2; (rw [hv] at h2; cases h2), fun k b e => absurd e (hp k b)⟩
theorem ent_in {k : Nat} {b : Blk} {rows : List (List V)} : ∀ b', (Eff.put k { b with rows := [[.mdat rows]] }).blk = some b' → b'.vec = false → ∀ row ∈ b'.rows, ∀ v ∈ row, InL L v := by
  intro b' hb' _ row hrow u hu
  simp only [Eff.blk, Option.some.injEq] at hb'
  subst hb'
  simp only [List.mem_singleton] at hrow
  subst hrow
  simp only [List.mem_singleton] at hu
  subst hu
  exact inL_nil rfl
theorem typedL_nil : ∀ (j : Nat) (l : List CK) (r : List V), ∀ v ∈ typedL j l r, V.refs v = []
  | _, [], _, v, h => by simp [typedL] at h
  | j, c :: l, r, v, h => by
    simp only [typedL, List.mem_cons] at h
    rcases h with rfl | h
    · cases c <;> rfl
    · exact typedL_nil _ l r v h
theorem elem_in (et : TypeId) (v : V) : InL L (elemV P et v).v := by
  unfold elemV outV
  have hn := typedL_nil 0 (ck P et) (V.cells v)
  generalize typedL 0 (ck P et) (V.cells v) = l at hn
  cases aggT P et with
  | true =>
    refine inL_nil ?_
    show V.refs (.agg l) = []
    rw [V.refs]
    apply List.eq_nil_iff_forall_not_mem.2
    intro k hk
    obtain ⟨u, hu, hk⟩ := refsL_mem hk
    rw [hn u hu] at hk; cases hk
  | false =>
    simp only [cond_false]
    match l with
    | [] => exact inL_nil rfl
    | [c] => exact inL_nil (hn c (by simp))
    | _ :: _ :: _ => exact inL_nil rfl
theorem vi_lookup (t : TypeId) (h : Heap) (a b : V) (ok : Bool) : VI L (opLookup P t h a b ok) := by
  have he := elem_in (P := P) (L := L)
  unfold opLookup
  split
  · simp only
    split
    · refine vi_if ?_
      cases ok with
      | true =>
        simp only [cond_true]
        intro k hk
        simp only [V.refs, V.refsL, List.append_nil] at hk
        exact he _ _ k hk
      | false => exact he _ _
    · exact vi_fail
  · exact vi_fail
theorem vi_entry (h : Heap) (a : V) : VI L (opEntry P h a) := by
  unfold opEntry
  split
  · split
    · split
      · split
        · refine vi_if ?_
          intro k hk
          simp only [V.refs, V.refsL, List.append_nil, List.mem_append] at hk
          rcases hk with hk | hk
          · exact elem_in _ _ k hk
          · exact elem_in _ _ k hk
        · exact vi_fail
      · exact vi_fail
    · exact vi_fail
  · exact vi_fail
theorem resIn {o : Oper} {t : List V} {g : List (Nat × Bool)} {h : Heap} {id : Nat} (hh : HL L h) (hev : ∀ x, InL L (evT t g x)) {v e fz} (hr : opV P o t g h id = ⟨true, v, e, fz⟩) : ResIn L id v e := by
  obtain ⟨dst, op, type, pos, after, guard⟩ := o
  cases op <;> first | (dsimp only [opV, opD] at hr; simp [OR.fail] at hr; done) | dsimp only [opV, opD] at hr
  case move x => split at hr <;> first | exact .of (q0_val _) (inL_nil rfl) hr | exact .of (q0_val _) (hev x) hr
  case assign x => split at hr <;> first | exact .of (q0_val _) (inL_nil rfl) hr | exact .of (q0_val _) (hev x) hr
  case pick c a b =>
    split at hr
    · exact .of (q0_sel _ _ _) (vi_sel _ _ _) hr
    · exact .of q0_fail vi_fail hr
  case alloc t0 =>
    simp only [OR.mk.injEq] at hr
    obtain ⟨_, rfl, rfl, rfl⟩ := hr
    refine ⟨fun k hk => .inr (by simpa [V.refs] using hk), fun b hb _ row hrow u hu => ?_, fun k b e => by cases e⟩
    simp only [Eff.blk, Option.some.injEq] at hb
    subst hb
    simp only [List.mem_singleton] at hrow
    subst hrow
    exact zeroV_in _ u hu
  case box t0 x =>
    simp only [OR.mk.injEq] at hr
    obtain ⟨_, rfl, rfl, rfl⟩ := hr
    refine ⟨fun k hk => .inr (by simpa [V.refs] using hk), fun b hb _ row hrow u hu => ?_, fun k b e => by cases e⟩
    simp only [Eff.blk, Option.some.injEq] at hb
    subst hb
    simp only [List.mem_singleton] at hrow
    subst hrow
    exact in_refsL (cells_inL (hev x)) u hu
  case build t0 ps =>
    refine .of (q0_build _ _) (vi_build _ _ fun p hp => ?_) hr
    obtain ⟨q, _, rfl⟩ := List.mem_map.1 hp
    exact hev _
  case buildSlice t0 len ps =>
    simp only [opBuildSlice, OR.mk.injEq] at hr
    obtain ⟨_, rfl, rfl, rfl⟩ := hr
    exact .vec rfl rfl (fun k b e => by cases e)
  case load t0 x => exact .of (q0_load _ _ _) (vi_load _ hh _) hr
  case store t0 x y =>
    unfold opStore at hr
    split at hr
    · rename_i k i j hxv
      split at hr
      · rename_i b hb
        simp only at hr
        cases hc : okT P t0 && Nat.ble (j + szOf P t0) b.sh.length && Nat.beq (V.cells (nilsTy P t0 (evT t g y))).length (szOf P t0) && !b.fr && (V.cells (nilsTy P t0 (evT t g y))).all V.one && !b.isMap with
        | false => rw [hc] at hr; exact .of q0_fail vi_fail hr
        | true =>
          rw [hc] at hr
          simp only [cond_true] at hr
          have hLk : L k := by have := hev x; rw [hxv] at this; exact this k (by simp [V.refs])
          cases hv : b.vec with
          | true =>
            simp only [hv, cond_true, OR.mk.injEq] at hr
            obtain ⟨_, rfl, rfl, rfl⟩ := hr
            refine ⟨inL_undef, fun b' hb' hv' => ?_, fun k' b' e => by cases e; exact hLk⟩
            simp only [Eff.blk, Option.some.injEq] at hb'
            subst hb'
            simp only [reduceCtorEq] at hv'
          | false =>
            simp only [hv, cond_false, OR.mk.injEq] at hr
            obtain ⟨_, rfl, rfl, rfl⟩ := hr
            refine ⟨inL_undef, fun b' hb' _ row hrow u hu => ?_, fun k' b' e => by cases e; exact hLk⟩
            simp only [Eff.blk, Option.some.injEq] at hb'
            subst hb'
            simp only at hrow
            rcases List.mem_or_eq_of_mem_set hrow with hrow | rfl
            · exact hh k b hb hv row hrow u hu
            · exact setCells_in _ _ _ (in_refsL (hh.row hb hv)) (in_refsL (cells_inL (inL_nils (hev y)))) u hu
      · exact .of q0_fail vi_fail hr
    · exact .of q0_fail vi_fail hr
  case nilCheck x =>
    have hx := hev x
    split at hr
    · rename_i hxv; rw [hxv] at hx; exact .of (q0_if _ _) hx hr
    · exact .of (q0_val _) (inL_nil rfl) hr
    · exact .of q0_fail vi_fail hr
  case binOp op t0 x y t1 => exact .of (q0_bin _ _ _ _) (vi_bin _ _ _ _) hr
  case unOp op t0 x => exact .of (q0_un _ _) (vi_un _ _) hr
  case convert s d x => exact .of (q0_convert _ _ _ _) (vi_convert _ _ _ _) hr
  case makeFunc fn first caps =>
    cases fn with
    | func f =>
      refine .of (q0_if _ _) (vi_if (c := Nat.beq first.size 0) ?_) hr
      intro k hk
      rw [V.refs] at hk
      obtain ⟨u, hu, hk⟩ := refsL_mem hk
      obtain ⟨x, _, rfl⟩ := List.mem_map.1 hu
      exact hev x k hk
    | _ => exact .of q0_fail vi_fail hr
  case makeSlice t0 l c =>
    unfold opMakeSlice at hr
    split at hr
    · simp only [OR.mk.injEq] at hr
      obtain ⟨_, rfl, rfl, rfl⟩ := hr
      exact .vec rfl rfl (fun k b e => by cases e)
    · exact .of q0_fail vi_fail hr
  case slice t0 x lo hi mx =>
    unfold opSlice at hr
    split at hr
    · exact .of q0_fail vi_fail hr
    · split at hr
      · revert hr
        cases !(Nat.beq _ _ && okT P _) with
        | true => intro hr; exact .of q0_fail vi_fail hr
        | false =>
          intro hr
          simp only [cond_false] at hr
          split at hr
          · exact .of (q0_if _ _) (inL_nil rfl) hr
          · exact .of q0_fail vi_fail hr
      · rename_i el k hu hxv
        split at hr
        · revert hr
          cases !(Nat.beq _ _ && okT P _) with
          | true => intro hr; exact .of q0_fail vi_fail hr
          | false =>
            intro hr
            simp only [cond_false] at hr
            split at hr
            · have hx := hev x
              rw [hxv] at hx
              refine .of (q0_if _ _) ?_ hr
              exact fun k' hk' => hx k' (by simpa [V.refs, OR.if] using hk')
            · exact .of q0_fail vi_fail hr
        · exact .of q0_fail vi_fail hr
      · rename_i el k sl su hu hxv
        split at hr
        · revert hr
          cases !(Nat.beq _ _ && okT P _) with
          | true => intro hr; exact .of q0_fail vi_fail hr
          | false =>
            intro hr
            simp only [cond_false] at hr
            split at hr
            · have hx := hev x
              rw [hxv] at hx
              refine .of (q0_if _ _) ?_ hr
              exact fun k' hk' => hx k' (by simpa [V.refs, OR.if] using hk')
            · exact .of q0_fail vi_fail hr
        · exact .of q0_fail vi_fail hr
      · split at hr
        · exact .of (q0_if _ _) (inL_nil rfl) hr
        · exact .of q0_fail vi_fail hr
      · exact .of q0_fail vi_fail hr
  case fieldAddr s x f => exact .of (q0_fieldAddr _ _ _ _) (vi_fieldAddr _ _ _ (hev x)) hr
  case field s x f => exact .of (q0_field _ _ _) (vi_field _ _ (hev x)) hr
  case indexAddr t0 x ix => exact .of (q0_indexAddr _ _ _ _) (vi_indexAddr _ _ _ (hev x)) hr
  case index t0 x ix => exact .of (q0_index _ _ _) (vi_index _ _ (hev x)) hr
  case extract x ix =>
    have hx := hev x
    split at hr
    · rename_i vs hvs
      rw [hvs] at hx
      split at hr
      · rename_i u hu
        exact .of (q0_val _) (fun k hk => hx k (by rw [V.refs]; exact mem_refsL (List.mem_of_getElem? hu) hk)) hr
      · exact .of q0_fail vi_fail hr
    · exact .of q0_fail vi_fail hr
  case call c =>
    obtain ⟨callee, args, ats⟩ := c
    cases callee with
    | builtin b =>
      cases b <;> first | exact .of q0_fail vi_fail hr | skip
      · simp only at hr
        split at hr
        · split at hr
          · rename_i x y hx _ t0 t1 hty
            unfold opAppend at hr
            simp only at hr
            split at hr
            · revert hr
              cases CK.beqL _ _ && _ && _ && _ && _ && _ && _ with
              | false => intro hr; exact .of q0_fail vi_fail hr
              | true =>
                intro hr
                simp only [cond_true] at hr
                split at hr
                · rename_i k hxv
                  split at hr
                  · revert hr
                    cases CK.beqL _ _ && _ && _ with
                    | false => intro hr; exact .of q0_fail vi_fail hr
                    | true =>
                      intro hr
                      simp only [cond_true, OR.mk.injEq] at hr
                      obtain ⟨_, rfl, rfl, rfl⟩ := hr
                      exact .vec rfl rfl (fun k b e => by cases e)
                  · exact .of q0_fail vi_fail hr
                · simp only [OR.mk.injEq] at hr
                  obtain ⟨_, rfl, rfl, rfl⟩ := hr
                  exact .vec rfl rfl (fun k b e => by cases e)
                · exact .of q0_fail vi_fail hr
            · exact .of q0_fail vi_fail hr
          · exact .of q0_fail vi_fail hr
        · exact .of q0_fail vi_fail hr
      · simp only at hr
        split at hr
        · split at hr
          · unfold opCopy at hr
            simp only at hr
            split at hr
            · rename_i x y _ _ _ _ _ _ sh' new k lo n b hpure hown
              simp only [OR.mk.injEq, Bool.and_eq_true, Bool.not_eq_true'] at hr
              obtain ⟨⟨⟨⟨⟨⟨⟨⟨⟨_, _⟩, _⟩, _⟩, _⟩, _⟩, _⟩, _⟩, hvec⟩, rfl, rfl, rfl⟩ := hr
              obtain ⟨hb, hLk⟩ := own_in (L := L) (hev _) hown
              exact ⟨inL_nil rfl, (fun b' hb' hv' => by
                simp only [Eff.blk, Option.some.injEq] at hb'
                subst hb'
                simp only [hvec] at hv'
                cases hv'), fun k' b' e => by cases e; exact hLk⟩
            · exact .of q0_fail vi_fail hr
          · exact .of q0_fail vi_fail hr
        · exact .of q0_fail vi_fail hr
      · simp only at hr
        split at hr
        · rename_i x y hx
          split at hr
          · unfold opDelete at hr
            split at hr
            · rename_i kt et k hmt hmv
              split at hr
              · simp only [OR.mk.injEq] at hr
                obtain ⟨_, rfl, rfl, rfl⟩ := hr
                have hLk : L k := by have := hev x; rw [hmv] at this; exact this k (by simp [V.refs])
                exact ⟨inL_nil rfl, ent_in, fun k' b' e => by cases e; exact hLk⟩
              · exact .of q0_fail vi_fail hr
            · exact .of q0_fail vi_fail hr
          · exact .of q0_fail vi_fail hr
        · exact .of q0_fail vi_fail hr
      · simp only at hr
        split at hr
        · split at hr
          · exact .of (q0_len _ _ _) (vi_len _ _ _) hr
          · exact .of q0_fail vi_fail hr
        · exact .of q0_fail vi_fail hr
      · simp only at hr
        split at hr
        · exact .of (q0_max _ _ _) (vi_max _ _ _) hr
        · exact .of q0_fail vi_fail hr
      · simp only at hr
        split at hr
        · exact .of (q0_min _ _ _) (vi_min _ _ _) hr
        · exact .of q0_fail vi_fail hr
    | _ => exact .of q0_fail vi_fail hr
  case lookup t0 m x ok => exact .of (q0_lookup _ _ _ _ _) (vi_lookup _ _ _ _ _) hr
  case entry x => exact .of (q0_entry _ _) (vi_entry _ _) hr
  case range t0 x =>
    unfold opRange at hr
    split at hr
    · obtain ⟨_, hr⟩ := bif_or hr
      simp only [OR.mk.injEq] at hr
      obtain ⟨_, rfl, rfl, rfl⟩ := hr
      refine ⟨fun k hk => .inr (by simpa [V.refs] using hk), fun b hb _ row hrow u hu => ?_, fun k b e => by cases e⟩
      simp only [Eff.blk, Option.some.injEq] at hb
      subst hb
      simp only [List.mem_singleton] at hrow
      subst hrow
      simp only [List.mem_cons, List.not_mem_nil, or_false] at hu
      rcases hu with rfl | rfl <;> exact inL_nil rfl
    · obtain ⟨_, hr⟩ := bif_or hr
      simp only [OR.mk.injEq] at hr
      obtain ⟨_, rfl, rfl, rfl⟩ := hr
      refine ⟨fun k hk => .inr (by simpa [V.refs] using hk), fun b hb _ row hrow u hu => ?_, fun k b e => by cases e⟩
      simp only [Eff.blk, Option.some.injEq] at hb
      subst hb
      simp only [List.mem_singleton] at hrow
      subst hrow
      simp only [List.mem_cons, List.not_mem_nil, or_false] at hu
      rcases hu with rfl | rfl <;> exact inL_nil rfl
    · exact .of q0_fail vi_fail hr
  case next x isS =>
    cases isS with
    | false => exact .of q0_fail vi_fail hr
    | true =>
      have hx := hev x
      obtain ⟨rfl, ⟨a, c, hv⟩, he⟩ := opNext_iff hr
      have hnv : V.refs v = [] := by rcases hv with rfl | rfl <;> rfl
      rcases he with rfl | ⟨k, b, s, p, hxv, hb, rfl⟩
      · exact ⟨fun k hk => (by rw [hnv] at hk; cases hk), fun b hb => by simp [Eff.blk] at hb, fun k b e => by cases e⟩
      · have hLk : L k := by rw [hxv] at hx; exact hx k (by simp [V.refs])
        refine ⟨fun k hk => (by rw [hnv] at hk; cases hk), fun b' hb' _ row hrow u hu => ?_, fun k' b' e => by cases e; exact hLk⟩
        simp only [Eff.blk, Option.some.injEq] at hb'
        subst hb'
        simp only [List.mem_singleton] at hrow
        subst hrow
        simp only [List.mem_cons, List.not_mem_nil, or_false] at hu
        rcases hu with rfl | rfl <;> exact inL_nil rfl
  case makeMap t0 r =>
    cases r with
    | some x => exact .of q0_fail vi_fail hr
    | none =>
      simp only [opMakeMap, OR.mk.injEq] at hr
      obtain ⟨_, rfl, rfl, rfl⟩ := hr
      refine ⟨fun k hk => .inr (by simpa [V.refs] using hk), fun b hb _ row hrow u hu => ?_, fun k b e => by cases e⟩
      simp only [Eff.blk, Option.some.injEq] at hb
      subst hb
      simp only [List.mem_singleton] at hrow
      subst hrow
      simp only [List.mem_singleton] at hu
      subst hu
      exact inL_nil rfl
  case mapUpdate t0 m x y =>
    unfold opMapUpdate at hr
    split at hr
    · rename_i kt et k hmt hmv
      split at hr
      · simp only [OR.mk.injEq] at hr
        obtain ⟨_, rfl, rfl, rfl⟩ := hr
        have hLk : L k := by have := hev m; rw [hmv] at this; exact this k (by simp [V.refs])
        exact ⟨inL_undef, ent_in, fun k' b' e => by cases e; exact hLk⟩
      · exact .of q0_fail vi_fail hr
    · exact .of q0_fail vi_fail hr
end
end Go.Vm
