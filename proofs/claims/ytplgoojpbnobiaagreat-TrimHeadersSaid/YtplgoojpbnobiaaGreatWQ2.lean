import Derived.Test.YtplgoojpbnobiaaGreatWQ1
set_option linter.unusedVariables false
set_option linter.unusedSimpArgs false
set_option maxRecDepth 100000
noncomputable section
namespace Go.Vm
open Go.Proofs
theorem agree_self {R : Type} (x : Option R) : agree x x = x := by
  unfold agree; rw [if_pos rfl]
theorem good_slices_Clone_api_Component_api_Component_of : G_slices_Clone_api_Component_api_Component := mk_slices_Clone_api_Component_api_Component fun a hp _ => by
  unfold pre_slices_Clone_api_Component_api_Component at hp
  unfold spec_slices_Clone_api_Component_api_Component m_slices_Clone_api_Component_api_Component
  cases a with
  | nil => simp only [hp, cond_true]; exact agree_self _
  | cons x l => simp only [hp, cond_true]; rfl
theorem good_slices_Clone_api_Point_api_Point_of : G_slices_Clone_api_Point_api_Point := mk_slices_Clone_api_Point_api_Point fun a hp _ => by
  unfold pre_slices_Clone_api_Point_api_Point at hp
  unfold spec_slices_Clone_api_Point_api_Point m_slices_Clone_api_Point_api_Point
  cases a with
  | nil => simp only [hp, cond_true]; exact agree_self _
  | cons x l => simp only [hp, cond_true]; rfl
theorem good_slices_Clone_int_int_of : G_slices_Clone_int_int := mk_slices_Clone_int_int fun a hp _ => by
  unfold pre_slices_Clone_int_int at hp
  unfold spec_slices_Clone_int_int m_slices_Clone_int_int
  cases a with
  | nil => simp only [hp, cond_true]; exact agree_self _
  | cons x l => simp only [hp, cond_true]; rfl
theorem two_succ (k : Nat) : (2 : Int) * 2 ^ k = 2 ^ (k + 1) := by rw [Int.pow_succ]; omega
theorem two_le {k : Nat} (h : k ≤ 60) : 0 ≤ (2 : Int) ^ k ∧ (2 : Int) ^ k ≤ 1152921504606846976 := by
  have h1 : (2 : Nat) ^ k ≤ 2 ^ 60 := Nat.pow_le_pow_right (by decide) h
  have h2 : ((2 ^ k : Nat) : Int) = (2 : Int) ^ k := by simp
  have h3 : (2 : Nat) ^ 60 = 1152921504606846976 := by decide
  rw [h3] at h1
  rw [← h2]
  exact ⟨Int.natCast_nonneg _, Int.ofNat_le.2 h1⟩
theorem scale_loop {R : Type} (d : Int) (hd : d ≤ 60) (e : Int → Option R) : ∀ (n : Nat) (i : Int), 0 ≤ i → (i ≤ d ∨ i = 0) → (d - i).toNat + 1 ≤ n →
    loop_R43_scale_0 d n (2 ^ i.toNat) i (fun v _ => e v) = e (2 ^ d.toNat)
  | 0, i, _, _, hn => by omega
  | n + 1, i, h0, h1, hn => by
    show step_R43_scale_0 d (2 ^ i.toNat) i (fun y z => loop_R43_scale_0 d n y z (fun v _ => e v)) _ = _
    unfold step_R43_scale_0
    by_cases hi : i < d
    · have hb := two_le (k := i.toNat + 1) (by omega)
      simp only [decide_eq_true hi, cond_true]
      rw [two_succ, w64 (n := 2 ^ (i.toNat + 1)) (by omega) (by omega), w64 (n := i + 1) (by omega) (by omega), show i.toNat + 1 = (i + 1).toNat by omega]
      exact scale_loop d hd e n (i + 1) (by omega) (by omega) (by omega)
    · simp only [decide_eq_false hi, cond_false]
      rw [show i.toNat = d.toNat by omega]
theorem good_R43_scale_of : G_R43_scale := mk_R43_scale fun d hp _ => by
  have hd : d ≤ 60 := of_decide_eq_true hp
  exact scale_loop d hd (fun v => some (V.int .i64 v)) _ 0 (Int.le_refl 0) (.inr rfl) (by show _ ≤ Int.toNat (d - 0) + 1; omega)
theorem scale_eq {d : Int} (h0 : 0 ≤ d) (h5 : d ≤ 5) : IntKind.wrap .i64 (1 * 2 ^ (min d.toNat 64)) = 2 ^ d.toNat ∧ ((2 : Int) ^ d.toNat != 0) = true := by
  have : d = 0 ∨ d = 1 ∨ d = 2 ∨ d = 3 ∨ d = 4 ∨ d = 5 := by omega
  rcases this with rfl | rfl | rfl | rfl | rfl | rfl <;> exact ⟨by decide, by decide⟩
theorem headOK_iff {h : SHeader} (hh : headOK h = true) : h.Components.length ≤ 4 := by
  unfold headOK at hh
  simp only [Bool.and_eq_true, inB_iff] at hh
  omega
theorem head_comps {h : SHeader} (hz : m_params_Header h = 0) : h.Components.length ≤ 4 := by
  unfold m_params_Header at hz
  cases hh : headOK h with
  | true => exact headOK_iff hh
  | false => simp [hh] at hz
theorem clone_pre {h : SHeader} {p : SParams} (hn : h.Components.length ≤ 4) (h1 : p.Precincts = []) (h2 : p.Steps = []) : pre_params_Clone h p = true ∧ m_params_Clone h p = (h, p) := by
  unfold pre_params_Clone m_params_Clone
  have e1 : pre_slices_Clone_api_Component_api_Component h.Components = true := room_of (by omega)
  have e2 : pre_slices_Clone_api_Point_api_Point p.Precincts = true := by rw [h1]; decide
  have e3 : pre_slices_Clone_int_int p.Steps = true := by rw [h2]; decide
  rw [e1, e2, e3]; exact ⟨rfl, rfl⟩
theorem R23_clone_pre {h : SHeader} {p : SParams} (hn : h.Components.length ≤ 4) (h1 : p.Precincts = []) (h2 : p.Steps = []) : pre_R23_Clone h p = true ∧ m_R23_Clone h p = (h, p) := by
  unfold pre_R23_Clone m_R23_Clone
  have e1 : roomOK (0 + h.Components.length) 32 = true := room_of (by omega)
  have e2 : roomOK (0 + p.Precincts.length) 16 = true := by rw [h1]; decide
  have e3 : roomOK (0 + p.Steps.length) 8 = true := by rw [h2]; decide
  rw [e1, e2, e3]; exact ⟨rfl, rfl⟩
def trimmed (h : SHeader) (d : Int) : SHeader × Int :=
  bif m_params_Header h != 0 then (SHeader.of [], m_params_Header h)
  else bif decide (d < 0) || decide (d > 5) then (SHeader.of [], 2)
  else bif (Int.tmod h.TileW (2 ^ d.toNat) != 0) || (Int.tmod h.TileH (2 ^ d.toNat) != 0) then (SHeader.of [], 13)
  else (fun (x : SHeader) => bif m_params_Header x != 0 then (SHeader.of [], m_params_Header x) else (x, 0))
    ⟨m_rect_Reduce h.Area (2 ^ d.toNat) (2 ^ d.toNat), IntKind.wrap .i64 (Int.tdiv h.TileW (2 ^ d.toNat)), IntKind.wrap .i64 (Int.tdiv h.TileH (2 ^ d.toNat)), h.Components⟩
theorem trim_Header_eq (h : SHeader) (d : Int) : pre_trim_Header h d = true ∧ m_trim_Header h d = trimmed h d := by
  unfold pre_trim_Header m_trim_Header trimmed
  by_cases hc : m_params_Header h = 0
  · by_cases h1 : d < 0
    · simp [hc, h1]; rfl
    by_cases h2 : d > 5
    · simp [hc, h1, h2]; rfl
    obtain ⟨e1, e2⟩ := scale_eq (d := d) (by omega) (by omega)
    have c1 : decide (0 ≤ d) = true := by simp; omega
    obtain ⟨e3, e4⟩ := clone_pre (h := h) (p := SParams.mk (0 : Int) (0 : Int) (0 : Int) (0 : Int) (0 : Int) [] (0 : Int) (0 : Int) (SMode.mk false false false false false) false false false [] (0 : Int) (0 : Int)) (head_comps hc) rfl rfl
    simp only [hc, h1, h2, decide_false, c1, e1, e2, e3, e4, bne_self_eq_false, cond_false, cond_true, Bool.true_or, Bool.or_self]
    cases (Int.tmod h.TileW (2 ^ d.toNat) != 0) <;> cases (Int.tmod h.TileH (2 ^ d.toNat) != 0) <;> refine ⟨by simp, ?_⟩ <;> rfl
  · simp [bne_iff_ne.2 hc]; rfl
theorem R43_Header_eq (h : SHeader) (d : Int) : pre_R43_Header h d = true ∧ m_R43_Header h d = trimmed h d := by
  unfold pre_R43_Header m_R43_Header trimmed m_R23_Header
  by_cases hc : m_params_Header h = 0
  · by_cases h1 : d < 0
    · simp [hc, h1]; rfl
    by_cases h2 : d > 5
    · simp [hc, h1, h2]; rfl
    obtain ⟨_, e2⟩ := scale_eq (d := d) (by omega) (by omega)
    have e0 : pre_R43_scale d = true := decide_eq_true (by omega)
    have e1 : m_R43_scale d = 2 ^ d.toNat := rfl
    obtain ⟨e3, e4⟩ := R23_clone_pre (h := h) (p := SParams.mk (0 : Int) (0 : Int) (0 : Int) (0 : Int) (0 : Int) [] (0 : Int) (0 : Int) (SMode.mk false false false false false) false false false [] (0 : Int) (0 : Int)) (head_comps hc) rfl rfl
    simp only [hc, h1, h2, decide_false, e0, e1, e2, e3, e4, R01_Reduce_eq, bne_self_eq_false, cond_false, cond_true, Bool.true_or, Bool.or_self]
    cases (Int.tmod h.TileW (2 ^ d.toNat) != 0) <;> cases (Int.tmod h.TileH (2 ^ d.toNat) != 0) <;> refine ⟨by simp, ?_⟩ <;> rfl
  · simp [bne_iff_ne.2 hc]; rfl
theorem cond_P {α : Type} {P : α → Prop} {c : Bool} {x y : α} (hx : P x) (hy : P y) : P (bif c then x else y) := by cases c <;> assumption
theorem trimmed_comps (h : SHeader) (d : Int) : (trimmed h d).1.Components = [] ∨ (trimmed h d).1.Components = h.Components := by
  unfold trimmed
  refine cond_P (P := fun x : SHeader × Int => x.1.Components = [] ∨ x.1.Components = h.Components) (.inl rfl) ?_
  refine cond_P (P := fun x : SHeader × Int => x.1.Components = [] ∨ x.1.Components = h.Components) (.inl rfl) ?_
  refine cond_P (P := fun x : SHeader × Int => x.1.Components = [] ∨ x.1.Components = h.Components) (.inl rfl) ?_
  exact cond_P (P := fun x : SHeader × Int => x.1.Components = [] ∨ x.1.Components = h.Components) (.inl rfl) (.inr rfl)
theorem step_SameHeader {R : Type} (a b : SHeader) (i : Int) (again kn : Int → Option R) (kr : V → Option R) (h0 : 0 ≤ i) (hl : a.Components.length ≤ 1048576) (he : (a.Components.length : Int) = (b.Components.length : Int)) :
    step_R23_SameHeader_0 a b i again kn kr = bif decide (i < (a.Components.length : Int)) then (bif compEq (SComponent.of (a.Components.getD i.toNat [])) (SComponent.of (b.Components.getD i.toNat [])) then again (i + 1) else kr (V.bool false)) else kn i := by
  unfold step_R23_SameHeader_0
  by_cases hi : i < (a.Components.length : Int)
  · simp only [decide_eq_true hi, cond_true, inR_of h0 hi, inR_of (n := b.Components.length) h0 (by omega)]
    rw [w64 (n := i + 1) (by omega) (by omega)]
    show (bif !compEq (SComponent.of (a.Components.getD i.toNat [])) (SComponent.of (b.Components.getD i.toNat [])) then _ else _) = _
    cases compEq (SComponent.of (a.Components.getD i.toNat [])) (SComponent.of (b.Components.getD i.toNat [])) <;> rfl
  · simp only [decide_eq_false hi, cond_false]
theorem good_R23_SameHeader_of : G_R23_SameHeader := mk_R23_SameHeader fun a b hp _ => by
  have hl : a.Components.length ≤ 1048576 := Nat.le_of_ble_eq_true hp
  unfold spec_R23_SameHeader m_R23_SameHeader
  show (bif ((bif (bif !rectEq a.Area b.Area then true else a.TileW != b.TileW) then true else a.TileH != b.TileH) == false) then _ else _) = _
  cases rectEq a.Area b.Area with
  | false => rfl
  | true =>
    by_cases h1 : a.TileW = b.TileW
    · by_cases h2 : a.TileH = b.TileH
      · simp only [h1, h2, Bool.not_true, cond_false, bne_self_eq_false, beq_self_eq_true, cond_true, Bool.true_and]
        by_cases h3 : (a.Components.length : Int) = (b.Components.length : Int)
        · have e1 : ((a.Components.length : Int) != (b.Components.length : Int)) = false := by simp [h3]
          have e2 : ((a.Components.length : Int) == (b.Components.length : Int)) = true := by simp [h3]
          simp only [e1, e2, cond_false, Bool.true_and]
          refine (loop_allB (a := 0) (b := (a.Components.length : Int)) (L := fun n i => loop_R23_SameHeader_0 a b n i (fun _ => some (V.bool true)) some) (ok := fun i => compEq (SComponent.of (a.Components.getD i.toNat [])) (SComponent.of (b.Components.getD i.toNat []))) (e := some (V.bool true)) (x := some (V.bool false)) (fun n i h0 => step_SameHeader a b i _ _ some h0 hl h3) _ (Nat.le_refl _)).trans ?_
          cases (rngI 0 (a.Components.length : Int)).all fun i => compEq (SComponent.of (a.Components.getD i.toNat [])) (SComponent.of (b.Components.getD i.toNat [])) <;> rfl
        · have e1 : ((a.Components.length : Int) != (b.Components.length : Int)) = true := by simp [h3]
          have e2 : ((a.Components.length : Int) == (b.Components.length : Int)) = false := by simp [h3]
          simp only [e1, e2, cond_true, Bool.false_and]
      · have e1 : (a.TileH != b.TileH) = true := by simp [h2]
        have e2 : (a.TileH == b.TileH) = false := by simp [h2]
        simp [h1, e1, e2]
    · have e1 : (a.TileW != b.TileW) = true := by simp [h1]
      have e2 : (a.TileW == b.TileW) = false := by simp [h1]
      simp [e1, e2]
theorem SameHeader_refl (a : SHeader) : m_R23_SameHeader a a = true := by
  unfold m_R23_SameHeader rectEq compEq
  simp
theorem good_R23_SameParams_of : G_R23_SameParams := mk_R23_SameParams fun p q hp _ => by
  unfold pre_R23_SameParams isZeroP at hp
  simp only [Bool.and_eq_true, beq_iff_eq, Bool.not_eq_true'] at hp
  obtain ⟨⟨⟨⟨⟨⟨⟨⟨⟨⟨⟨⟨⟨⟨⟨⟨⟨⟨⟨a1, a2⟩, a3⟩, a4⟩, a5⟩, a6⟩, a7⟩, a8⟩, a9⟩, a10⟩, a11⟩, a12⟩, a13⟩, a14⟩, a15⟩, a16⟩, a17⟩, a18⟩, a19⟩, ⟨⟨⟨⟨⟨⟨⟨⟨⟨⟨⟨⟨⟨⟨⟨⟨⟨⟨b1, b2⟩, b3⟩, b4⟩, b5⟩, b6⟩, b7⟩, b8⟩, b9⟩, b10⟩, b11⟩, b12⟩, b13⟩, b14⟩, b15⟩, b16⟩, b17⟩, b18⟩, b19⟩⟩ := hp
  have a6' := Nat.eq_of_beq_eq_true a6
  have a17' := Nat.eq_of_beq_eq_true a17
  have b6' := Nat.eq_of_beq_eq_true b6
  have b17' := Nat.eq_of_beq_eq_true b17
  have l1 : fuel_R23_SameParams_0 0 p q = 1 := by unfold fuel_R23_SameParams_0; simp [a6']
  have l2 : fuel_R23_SameParams_2 0 p q = 1 := by unfold fuel_R23_SameParams_2; simp [a17']
  unfold spec_R23_SameParams
  simp only [a1, a2, a3, a4, a5, a7, a8, a9, a10, a11, a12, a13, a14, a15, a16, a18, a19, b1, b2, b3, b4, b5, b7, b8, b9, b10, b11, b12, b13, b14, b15, b16, b18, b19, a6', a17', b6', b17', bne_self_eq_false, cond_false, Bool.not_true, beq_self_eq_true, Bool.and_self, cond_true, l1, l2]
  show step_R23_SameParams_0 p q 0 _ _ some = _
  unfold step_R23_SameParams_0
  simp only [a6', Int.natCast_zero, Int.lt_irrefl, decide_false, cond_false]
  show step_R23_SameParams_2 p q 0 _ _ some = _
  unfold step_R23_SameParams_2
  simp only [a17', Int.natCast_zero, Int.lt_irrefl, decide_false, cond_false]
  rfl
theorem good_L43_exampleHolds_of (h1 : G_trim_Header) (h2 : G_trim_Layers) (h3 : G_trim_Components) : G_L43_exampleHolds := mk_L43_exampleHolds h1 h2 h3 fun _ => by kernel_rfl
theorem good_L43_TrimHeaders_of (h1 : G_L43_exampleHolds) (h2 : G_trim_Header) (h3 : G_R43_Header) (h4 : G_R23_Same) : G_L43_TrimHeaders := mk_L43_TrimHeaders h1 h2 h3 h4 fun h d _ => by
  unfold spec_L43_TrimHeaders
  by_cases hl : (h.Components.length : Int) > 20
  · simp only [decide_eq_true hl, cond_true]; rfl
  obtain ⟨p1, e1⟩ := trim_Header_eq h d
  obtain ⟨p2, e2⟩ := R43_Header_eq h d
  have hc : (trimmed h d).1.Components.length ≤ 1048576 := by
    rcases trimmed_comps h d with e | e <;> rw [e]
    · exact Nat.zero_le _
    · omega
  have p3 : pre_R23_SameHeader (trimmed h d).1 (trimmed h d).1 = true := Nat.ble_eq_true_of_le hc
  have p4 : pre_R23_SameParams (SParams.mk (0 : Int) (0 : Int) (0 : Int) (0 : Int) (0 : Int) [] (0 : Int) (0 : Int) (SMode.mk false false false false false) false false false [] (0 : Int) (0 : Int)) (SParams.mk (0 : Int) (0 : Int) (0 : Int) (0 : Int) (0 : Int) [] (0 : Int) (0 : Int) (SMode.mk false false false false false) false false false [] (0 : Int) (0 : Int)) = true := by decide
  simp only [decide_eq_false hl, cond_false, p1, e1, p2, e2, cond_true]
  unfold pre_R23_Same m_R23_Same
  simp only [p3, p4, SameHeader_refl, cond_true, beq_self_eq_true]
  rfl
end Go.Vm
