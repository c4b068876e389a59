import Derived.Test.YtoldachfmeghkaaGreatVmAny2
set_option linter.unusedVariables false
namespace Go.Vm
section
variable {P : Program}
def Q0 (r : OR) : Prop := r.e = .none ∧ r.fz = []
theorem q0_val (v : V) : Q0 (.val v) := ⟨rfl, rfl⟩
theorem q0_if (c : Bool) (v : V) : Q0 (.if c v) := ⟨rfl, rfl⟩
theorem q0_fail : Q0 .fail := ⟨rfl, rfl⟩
theorem q0_cond (c : Bool) {x y : OR} (hx : Q0 x) (hy : Q0 y) : Q0 (bif c then x else y) := by cases c <;> assumption
theorem q0_sel (q : Bool) (x y : V) : Q0 (V.sel q x y) := by
  unfold V.sel; split <;> first | exact q0_val _ | exact q0_if _ _ | exact q0_fail
theorem q0_bin (op : BinOp) (t : TypeId) (x y : V) : Q0 (opBin P op t x y) := by
  unfold opBin
  split
  · split
    · exact q0_if _ _
    · exact q0_if _ _
    · refine q0_cond _ ?_ q0_fail
      split <;> first | exact q0_val _ | exact q0_if _ _ | exact q0_fail
  · split <;> first | exact q0_cond _ (q0_val _) q0_fail | exact q0_fail
  · split <;> first | exact q0_val _ | exact q0_fail
  · split <;> first | exact q0_if _ _ | exact q0_fail
  · split <;> first | (refine q0_cond _ q0_fail ?_; split <;> first | exact q0_val _ | exact q0_fail) | exact q0_fail
  · exact q0_fail
theorem q0_un (op : UnOp) (x : V) : Q0 (opUn op x) := by
  unfold opUn; split <;> first | exact q0_val _ | exact q0_fail
theorem q0_out (t : TypeId) (cs : List V) : Q0 (outV P t cs) := by
  unfold outV; refine q0_cond _ (q0_val _) ?_; split <;> first | exact q0_val _ | exact q0_fail
theorem q0_load (t : TypeId) (h : Heap) (a : V) : Q0 (opLoad P t h a) := by
  unfold opLoad
  split
  · split
    · exact q0_cond _ (q0_out _ _) q0_fail
    · exact q0_fail
  · exact q0_cond _ (q0_out _ _) q0_fail
  · exact q0_fail
theorem q0_fieldAddr (s : TypeId) (h : Heap) (a : V) (f : Nat) : Q0 (opFieldAddr P s h a f) := by
  unfold opFieldAddr
  split
  · refine q0_cond _ q0_fail ?_
    split <;> first | exact q0_val _ | exact q0_if _ _ | exact q0_fail
  · exact q0_fail
theorem q0_indexAddr (t : TypeId) (h : Heap) (a i : V) : Q0 (opIndexAddr P t h a i) := by
  unfold opIndexAddr
  split
  · split
    · exact q0_cond _ (q0_if _ _) q0_fail
    · split
      · exact q0_cond _ (q0_if _ _) q0_fail
      · exact q0_fail
    · split
      · exact q0_cond _ (q0_if _ _) q0_fail
      · exact q0_fail
    · split <;> first | exact q0_if _ _ | exact q0_fail
    · split <;> first | exact q0_if _ _ | exact q0_fail
    · exact q0_fail
  · exact q0_fail
theorem q0_len (t : TypeId) (h : Heap) (a : V) : Q0 (opLen P t h a) := by
  unfold opLen
  split
  · split
    · exact q0_val _
    · exact q0_val _
    · split
      · exact q0_cond _ (q0_val _) q0_fail
      · exact q0_fail
    · split
      · exact q0_cond _ (q0_val _) q0_fail
      · exact q0_fail
    · exact q0_fail
  · split <;> first | exact q0_val _ | exact q0_fail
  · exact q0_val _
  · split <;> first | exact q0_val _ | exact q0_fail
  · exact q0_fail
theorem q0_lookup (t : TypeId) (h : Heap) (a b : V) (ok : Bool) : Q0 (opLookup P t h a b ok) := by
  unfold opLookup
  split
  · simp only
    split
    · exact q0_if _ _
    · exact q0_fail
  · exact q0_fail
theorem q0_entry (h : Heap) (a : V) : Q0 (opEntry P h a) := by
  unfold opEntry
  split
  · split
    · split
      · split
        · exact q0_if _ _
        · exact q0_fail
      · exact q0_fail
    · exact q0_fail
  · exact q0_fail
theorem q0_field (s : TypeId) (a : V) (f : Nat) : Q0 (opField P s a f) := by
  unfold opField
  split
  · unfold Vm.part; split <;> first | exact q0_val _ | exact q0_fail
  · exact q0_fail
theorem q0_index (t : TypeId) (a i : V) : Q0 (opIndex P t a i) := by
  unfold opIndex
  split
  · split
    · refine q0_cond _ ?_ q0_fail
      split
      · exact q0_if _ _
      · exact q0_fail
    · exact q0_fail
  · exact q0_if _ _
  · exact q0_fail
theorem q0_build (t : TypeId) (ps : List (Nat × V)) : Q0 (opBuild P t ps) := by
  unfold opBuild
  split
  · simp only
    split
    · exact q0_cond _ (q0_val _) q0_fail
    · exact q0_fail
  · split
    · exact q0_cond _ (q0_val _) q0_fail
    · exact q0_fail
  · exact q0_fail
theorem q0_convert (s d : TypeId) (h : Heap) (a : V) : Q0 (opConvert P s d h a) := by
  unfold opConvert
  split
  · split <;> first | exact q0_val _ | exact q0_fail
  · split
    · split <;> first | exact q0_val _ | exact q0_fail
    · exact q0_fail
  · exact q0_fail
theorem q0_min : ∀ (k : IntKind) (x : Int) (l : List V), Q0 (minL k x l)
  | _, _, [] => q0_val _
  | k, x, .int _ y :: r => q0_min k _ r
  | _, _, .undef :: _ => q0_fail
  | _, _, .bool _ :: _ => q0_fail
  | _, _, .str _ :: _ => q0_fail
  | _, _, .agg _ :: _ => q0_fail
  | _, _, .tup _ :: _ => q0_fail
  | _, _, .nils _ :: _ => q0_fail
  | _, _, .nilp :: _ => q0_fail
  | _, _, .data _ _ :: _ => q0_fail
  | _, _, .pdat _ _ _ :: _ => q0_fail
  | _, _, .vs _ :: _ => q0_fail
  | _, _, .sub _ _ _ :: _ => q0_fail
  | _, _, .ptr _ _ _ :: _ => q0_fail
  | _, _, .fn _ _ :: _ => q0_fail
  | _, _, .mp _ :: _ => q0_fail
  | _, _, .mdat _ :: _ => q0_fail
  | _, _, .unk :: _ => q0_fail
  | _, _, .it _ _ _ :: _ => q0_fail
  | _, _, .gd _ _ _ :: _ => q0_fail
theorem q0_max : ∀ (k : IntKind) (x : Int) (l : List V), Q0 (maxL k x l)
  | _, _, [] => q0_val _
  | k, x, .int _ y :: r => q0_max k _ r
  | _, _, .undef :: _ => q0_fail
  | _, _, .bool _ :: _ => q0_fail
  | _, _, .str _ :: _ => q0_fail
  | _, _, .agg _ :: _ => q0_fail
  | _, _, .tup _ :: _ => q0_fail
  | _, _, .nils _ :: _ => q0_fail
  | _, _, .nilp :: _ => q0_fail
  | _, _, .data _ _ :: _ => q0_fail
  | _, _, .pdat _ _ _ :: _ => q0_fail
  | _, _, .vs _ :: _ => q0_fail
  | _, _, .sub _ _ _ :: _ => q0_fail
  | _, _, .ptr _ _ _ :: _ => q0_fail
  | _, _, .fn _ _ :: _ => q0_fail
  | _, _, .mp _ :: _ => q0_fail
  | _, _, .mdat _ :: _ => q0_fail
  | _, _, .unk :: _ => q0_fail
  | _, _, .it _ _ _ :: _ => q0_fail
  | _, _, .gd _ _ _ :: _ => q0_fail
structure EffOK (L : Nat → Prop) (o : Oper) (h : Heap) (e : Eff) (fz : List Nat) : Prop where
  fzL : ∀ k ∈ fz, L k
  quiet : quietOp o = true → e = .none ∨ ∃ b, e = .new b
  pt : ptOp o = true → fz = [] ∧ (e = .none ∨ ∃ b, e = .new b)
  sr : (srOp o || ldOp o) = true → e = .none ∧ fz = []
  st : (stOp o || cpOp o) = true → e = .none ∧ fz = [] ∨ ∃ k b b', h.get k = some b ∧ e = .put k b' ∧ b'.vec = b.vec ∧ b'.sh = b.sh ∧ b'.rows.length = b.rows.length ∧ L k
  ap : apOp o = true → fz = [] ∧ (e = .none ∨ (∃ b, e = .new b) ∨ ∃ k b, e = .app k b ∧ L k)
theorem EffOK.none {L o h} : EffOK L o h .none [] :=
  ⟨fun k hk => (by cases hk), fun _ => .inl rfl, fun _ => ⟨rfl, .inl rfl⟩, fun _ => ⟨rfl, rfl⟩, fun _ => .inl ⟨rfl, rfl⟩, fun _ => ⟨rfl, .inl rfl⟩⟩
theorem EffOK.of_q0 {L o h} {r : OR} (hq : Q0 r) {v e fz} (hr : r = ⟨true, v, e, fz⟩) : EffOK L o h e fz := by
  subst hr
  obtain ⟨h1, h2⟩ := hq
  simp only at h1 h2
  subst h1; subst h2
  exact .none
theorem own_in {L : Nat → Prop} {h : Heap} {v : V} (hv : InL L v) {k lo n : Nat} {b : Blk} (ho : ownOf h v = some (k, lo, n, b)) : h.get k = some b ∧ L k := by
  cases v <;> try (simp [ownOf] at ho; done)
  · simp only [ownOf] at ho
    split at ho
    · rename_i hb
      simp only [Option.some.injEq, Prod.mk.injEq] at ho
      obtain ⟨rfl, rfl, rfl, rfl⟩ := ho
      exact ⟨hb, hv _ (by simp [V.refs])⟩
    · cases ho
  · simp only [ownOf] at ho
    split at ho
    · rename_i hb
      simp only [Option.some.injEq, Prod.mk.injEq] at ho
      obtain ⟨rfl, rfl, rfl, rfl⟩ := ho
      exact ⟨hb, hv _ (by simp [V.refs])⟩
    · cases ho
theorem effOK {L : Nat → Prop} {o : Oper} {t : List V} {g : List (Nat × Bool)} {h : Heap} {id : Nat} (hh : HL L h) (hev : ∀ x, InL L (evT t g x)) {v e fz} (hr : opV P o t g h id = ⟨true, v, e, fz⟩) : EffOK L o h e fz := by
  obtain ⟨dst, op, type, pos, after, guard⟩ := o
  have newE : ∀ {o : Oper} {b : Blk} {fz : List Nat}, (∀ k ∈ fz, L k) → (ptOp o = true → fz = []) → (srOp o || ldOp o) = false → (stOp o || cpOp o) = false → apOp o = false → EffOK L o h (.new b) fz := by
    intro o b fz h1 h2 h3 h4 h5
    exact ⟨h1, fun _ => .inr ⟨b, rfl⟩, fun hp => ⟨h2 hp, .inr ⟨b, rfl⟩⟩, fun hp => (by rw [h3] at hp; cases hp), fun hp => (by rw [h4] at hp; cases hp), fun hp => (by rw [h5] at hp; cases hp)⟩
  cases op <;> first | (dsimp only [opV, opD] at hr; simp [OR.fail] at hr; done) | dsimp only [opV, opD] at hr
  case move x => split at hr <;> exact .of_q0 (q0_val _) hr
  case assign x => split at hr <;> exact .of_q0 (q0_val _) hr
  case pick c a b =>
    split at hr
    · exact .of_q0 (q0_sel _ _ _) hr
    · exact .of_q0 q0_fail hr
  case alloc t0 =>
    simp only [OR.mk.injEq] at hr
    obtain ⟨_, _, rfl, rfl⟩ := hr
    exact newE (fun k hk => by cases hk) (fun _ => rfl) rfl rfl rfl
  case box t0 x =>
    simp only [OR.mk.injEq] at hr
    obtain ⟨_, _, rfl, rfl⟩ := hr
    exact newE (fun k hk => by cases hk) (fun _ => rfl) rfl rfl rfl
  case build t0 ps => exact .of_q0 (q0_build _ _) hr
  case buildSlice t0 len ps =>
    simp only [opBuildSlice, OR.mk.injEq] at hr
    obtain ⟨_, _, rfl, rfl⟩ := hr
    refine newE (deep_inL hh _ fun k hk => ?_) (fun hp => by simp [ptOp] at hp) rfl rfl rfl
    obtain ⟨u, hu, hk'⟩ := refsL_mem hk
    obtain ⟨p, hp, rfl⟩ := List.mem_map.1 hu
    obtain ⟨q, _, rfl⟩ := List.mem_map.1 hp
    exact hev _ k hk'
  case load t0 x => exact .of_q0 (q0_load _ _ _) hr
  case store t0 x y =>
    unfold opStore at hr
    split at hr
    · rename_i k i j hxv
      split at hr
      · rename_i b hb
        simp only at hr
        cases hc : okT P t0 && Nat.ble (j + szOf P t0) b.sh.length && Nat.beq (V.cells (nilsTy P t0 (evT t g y))).length (szOf P t0) && !b.fr && (V.cells (nilsTy P t0 (evT t g y))).all V.one && !b.isMap with
        | false => rw [hc] at hr; exact .of_q0 q0_fail hr
        | true =>
          rw [hc] at hr
          simp only [cond_true] at hr
          have hLk : L k := by have := hev x; rw [hxv] at this; exact this k (by simp [V.refs])
          cases hv : b.vec with
          | true =>
            simp only [hv, cond_true, OR.mk.injEq] at hr
            obtain ⟨_, _, rfl, rfl⟩ := hr
            refine ⟨deep_inL hh _ (cells_inL (inL_nils (hev y))), fun hp => by simp [quietOp] at hp, fun hp => by simp [ptOp] at hp, fun hp => by simp [srOp, ldOp] at hp, fun _ => .inr ⟨k, b, _, hb, rfl, hv.symm, rfl, by simp, hLk⟩, fun hp => by simp [apOp] at hp⟩
          | false =>
            simp only [hv, cond_false, OR.mk.injEq] at hr
            obtain ⟨_, _, rfl, rfl⟩ := hr
            refine ⟨fun k hk => (by cases hk), fun hp => by simp [quietOp] at hp, fun hp => by simp [ptOp] at hp, fun hp => by simp [srOp, ldOp] at hp, fun _ => .inr ⟨k, b, _, hb, rfl, hv.symm, rfl, by simp, hLk⟩, fun hp => by simp [apOp] at hp⟩
      · exact .of_q0 q0_fail hr
    · exact .of_q0 q0_fail hr
  case nilCheck x =>
    split at hr
    · exact .of_q0 (q0_if _ _) hr
    · exact .of_q0 (q0_val _) hr
    · exact .of_q0 q0_fail hr
  case binOp op t0 x y t1 => exact .of_q0 (q0_bin _ _ _ _) hr
  case unOp op t0 x => exact .of_q0 (q0_un _ _) hr
  case convert s d x => exact .of_q0 (q0_convert _ _ _ _) hr
  case makeFunc fn first caps => cases fn <;> first | exact .of_q0 (q0_if _ _) hr | exact .of_q0 q0_fail hr
  case makeSlice t0 l c =>
    unfold opMakeSlice at hr
    split at hr
    · simp only [OR.mk.injEq] at hr
      obtain ⟨_, _, rfl, rfl⟩ := hr
      exact newE (fun k hk => by cases hk) (fun _ => rfl) rfl rfl rfl
    · exact .of_q0 q0_fail hr
  case slice t0 x lo hi mx =>
    unfold opSlice at hr
    split at hr
    · exact .of_q0 q0_fail hr
    · split at hr
      · revert hr
        cases !(Nat.beq _ _ && okT P _) with
        | true => intro hr; exact .of_q0 q0_fail hr
        | false =>
          intro hr
          simp only [cond_false] at hr
          split at hr
          · exact .of_q0 (q0_if _ _) hr
          · exact .of_q0 q0_fail hr
      · rename_i el k hu hxv
        split at hr
        · revert hr
          cases !(Nat.beq _ _ && okT P _) with
          | true => intro hr; exact .of_q0 q0_fail hr
          | false =>
            intro hr
            simp only [cond_false] at hr
            split at hr
            · exact .of_q0 (q0_if _ _) hr
            · exact .of_q0 q0_fail hr
        · exact .of_q0 q0_fail hr
      · rename_i el k sl su hu hxv
        split at hr
        · revert hr
          cases !(Nat.beq _ _ && okT P _) with
          | true => intro hr; exact .of_q0 q0_fail hr
          | false =>
            intro hr
            simp only [cond_false] at hr
            split at hr
            · exact .of_q0 (q0_if _ _) hr
            · exact .of_q0 q0_fail hr
        · exact .of_q0 q0_fail hr
      · split at hr
        · exact .of_q0 (q0_if _ _) hr
        · exact .of_q0 q0_fail hr
      · exact .of_q0 q0_fail hr
  case fieldAddr s x f => exact .of_q0 (q0_fieldAddr _ _ _ _) hr
  case field s x f => exact .of_q0 (q0_field _ _ _) hr
  case indexAddr t0 x ix => exact .of_q0 (q0_indexAddr _ _ _ _) hr
  case index t0 x ix => exact .of_q0 (q0_index _ _ _) hr
  case extract x ix =>
    split at hr
    · split at hr
      · exact .of_q0 (q0_val _) hr
      · exact .of_q0 q0_fail hr
    · exact .of_q0 q0_fail hr
  case call c =>
    obtain ⟨callee, args, ats⟩ := c
    cases callee with
    | builtin b =>
      cases b <;> first | exact .of_q0 q0_fail hr | skip
      · simp only at hr
        split at hr
        · split at hr
          · rename_i x y hx _ t0 t1 hty
            unfold opAppend at hr
            simp only at hr
            split at hr
            · revert hr
              cases CK.beqL _ _ && _ && _ && _ && _ && _ && _ with
              | false => intro hr; exact .of_q0 q0_fail hr
              | true =>
                intro hr
                simp only [cond_true] at hr
                split at hr
                · rename_i k hxv
                  split at hr
                  · revert hr
                    cases CK.beqL _ _ && _ && _ with
                    | false => intro hr; exact .of_q0 q0_fail hr
                    | true =>
                      intro hr
                      simp only [cond_true, OR.mk.injEq] at hr
                      obtain ⟨_, _, rfl, rfl⟩ := hr
                      refine ⟨fun k hk => (by cases hk), fun hp => by simp [quietOp] at hp, fun hp => by simp [ptOp] at hp, fun hp => by simp [srOp, ldOp] at hp, fun hp => by simp [stOp, cpOp] at hp, fun _ => ⟨rfl, .inr (.inr ⟨k, _, rfl, ?_⟩)⟩⟩
                      have := hev x
                      rw [hxv] at this
                      exact this k (by simp [V.refs])
                  · exact .of_q0 q0_fail hr
                · simp only [OR.mk.injEq] at hr
                  obtain ⟨_, _, rfl, rfl⟩ := hr
                  exact ⟨fun k hk => (by cases hk), fun hp => by simp [quietOp] at hp, fun hp => by simp [ptOp] at hp, fun hp => by simp [srOp, ldOp] at hp, fun hp => by simp [stOp, cpOp] at hp, fun _ => ⟨rfl, .inr (.inl ⟨_, rfl⟩)⟩⟩
                · exact .of_q0 q0_fail hr
            · exact .of_q0 q0_fail hr
          · exact .of_q0 q0_fail hr
        · exact .of_q0 q0_fail hr
      · simp only at hr
        split at hr
        · split at hr
          · rename_i x y hx _ t0 t1 hty
            unfold opCopy at hr
            simp only at hr
            split at hr
            · rename_i sh' new k lo n b hpure hown
              simp only [OR.mk.injEq, Bool.and_eq_true, Bool.not_eq_true'] at hr
              obtain ⟨⟨⟨⟨⟨⟨⟨⟨⟨_, _⟩, _⟩, _⟩, _⟩, _⟩, _⟩, _⟩, hvec⟩, _, rfl, rfl⟩ := hr
              obtain ⟨hb, hLk⟩ := own_in (L := L) (hev x) hown
              exact ⟨fun k hk => (by cases hk), fun hp => by simp [quietOp] at hp, fun hp => by simp [ptOp] at hp, fun hp => by simp [srOp, ldOp] at hp, fun _ => .inr ⟨k, b, _, hb, rfl, hvec.symm ▸ rfl, rfl, putRows_len _ _ _, hLk⟩, fun hp => by simp [apOp] at hp⟩
            · exact .of_q0 q0_fail hr
          · exact .of_q0 q0_fail hr
        · exact .of_q0 q0_fail hr
      · simp only at hr
        split at hr
        · split at hr
          · unfold opDelete at hr
            split at hr
            · split at hr
              · simp only [OR.mk.injEq] at hr
                obtain ⟨_, _, rfl, rfl⟩ := hr
                exact ⟨fun k hk => (by cases hk), fun hp => by simp [quietOp] at hp, fun hp => by simp [ptOp] at hp, fun hp => by simp [srOp, ldOp] at hp, fun hp => by simp [stOp, cpOp] at hp, fun hp => by simp [apOp] at hp⟩
              · exact .of_q0 q0_fail hr
            · exact .of_q0 q0_fail hr
          · exact .of_q0 q0_fail hr
        · exact .of_q0 q0_fail hr
      · simp only at hr
        split at hr
        · split at hr
          · exact .of_q0 (q0_len _ _ _) hr
          · exact .of_q0 q0_fail hr
        · exact .of_q0 q0_fail hr
      · simp only at hr
        split at hr
        · exact .of_q0 (q0_max _ _ _) hr
        · exact .of_q0 q0_fail hr
      · simp only at hr
        split at hr
        · exact .of_q0 (q0_min _ _ _) hr
        · exact .of_q0 q0_fail hr
    | _ => exact .of_q0 q0_fail hr
  case lookup t0 m x ok => exact .of_q0 (q0_lookup _ _ _ _ _) hr
  case range t0 x =>
    unfold opRange at hr
    split at hr
    · obtain ⟨_, hr⟩ := bif_or hr
      simp only [OR.mk.injEq] at hr
      obtain ⟨_, _, rfl, rfl⟩ := hr
      exact newE (fun k hk => by cases hk) (fun _ => rfl) rfl rfl rfl
    · obtain ⟨_, hr⟩ := bif_or hr
      simp only [OR.mk.injEq] at hr
      obtain ⟨_, _, rfl, rfl⟩ := hr
      exact newE (fun k hk => by cases hk) (fun _ => rfl) rfl rfl rfl
    · exact .of_q0 q0_fail hr
  case next x isS =>
    cases isS with
    | false => exact .of_q0 q0_fail hr
    | true =>
      obtain ⟨rfl, _, _⟩ := opNext_iff hr
      exact ⟨fun k hk => (by cases hk), fun hp => by simp [quietOp] at hp, fun hp => by simp [ptOp] at hp, fun hp => by simp [srOp, ldOp] at hp, fun hp => by simp [stOp, cpOp] at hp, fun hp => by simp [apOp] at hp⟩
  case entry x => exact .of_q0 (q0_entry _ _) hr
  case makeMap t0 r =>
    cases r with
    | some x => exact .of_q0 q0_fail hr
    | none =>
      simp only [opMakeMap, OR.mk.injEq] at hr
      obtain ⟨_, _, rfl, rfl⟩ := hr
      exact newE (fun k hk => by cases hk) (fun _ => rfl) rfl rfl rfl
  case mapUpdate t0 m x y =>
    unfold opMapUpdate at hr
    split at hr
    · split at hr
      · simp only [OR.mk.injEq] at hr
        obtain ⟨_, _, rfl, rfl⟩ := hr
        refine ⟨deep_inL hh _ fun k hk => ?_, fun hp => by simp [quietOp] at hp, fun hp => by simp [ptOp] at hp, fun hp => by simp [srOp, ldOp] at hp, fun hp => by simp [stOp, cpOp] at hp, fun hp => by simp [apOp] at hp⟩
        simp only [V.refsL, List.append_nil] at hk
        exact hev y k hk
      · exact .of_q0 q0_fail hr
    · exact .of_q0 q0_fail hr
end
end Go.Vm
