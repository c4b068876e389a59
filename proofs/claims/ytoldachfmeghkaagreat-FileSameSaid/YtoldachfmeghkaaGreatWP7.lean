import Derived.Test.YtoldachfmeghkaaGreatWP5
set_option linter.unusedVariables false
set_option linter.unusedSimpArgs false
set_option maxRecDepth 100000
noncomputable section
namespace Go.Vm
open Go.Proofs
theorem Grid_cells {r : SRect} {a b : Int} (ha : 0 ≤ a ∧ a ≤ 12) (hb : 0 ≤ b ∧ b ≤ 12) : m_R23_Grid r a b = m_params_cells r a b := by
  unfold m_R23_Grid m_params_cells
  rw [R01_Empty_eq, R01_CeilDiv_eq, R01_FloorDiv_eq]
  cases m_rect_Empty r with
  | true => rfl
  | false =>
    simp only [decide_eq_true ha.1, decide_eq_true hb.1, wrapu_nonneg, decide_true, cond_true, cond_false]
    rw [shl_one ha.1 ha.2, shl_one hb.1 hb.2, shl_one' ha.1 ha.2, shl_one' hb.1 hb.2]
theorem foldl_rel {α β γ : Type} {P : α → β → Prop} {f : α → γ → α} {g : β → γ → β} : ∀ (l : List γ) (a : α) (b : β), (∀ s t x, x ∈ l → P s t → P (f s x) (g t x)) → P a b → P (l.foldl f a) (l.foldl g b)
  | [], _, _, _, h => h
  | x :: l, a, b, hs, h => foldl_rel l _ _ (fun s t y hy hp => hs s t y (List.mem_cons_of_mem _ hy) hp) (hs a b x (List.mem_cons_self ..) h)
theorem wrap_lin (s c k : Int) : IntKind.wrap .i64 (IntKind.wrap .i64 (s * k) + IntKind.wrap .i64 (c * k)) = IntKind.wrap .i64 (IntKind.wrap .i64 (s + c) * k) := by
  rw [wrap_wrap_add, wrap_mul_wrap, Int.add_comm, wrap_wrap_add, Int.add_mul, Int.add_comm]
theorem packets_eq {h : SHeader} {p : SParams} {t : SRect} (hn : numB p = true) :
    h.Components.foldl (fun s w => (rngI 0 (p.Levels + 1)).foldl (fun s res => IntKind.wrap .i64 (s + tfPk p (compRect t w) res)) s) 0 = m_R23_Packets h p t := by
  unfold m_R23_Packets
  refine foldl_rel (P := fun a b => a = IntKind.wrap .i64 (b * p.Layers)) h.Components 0 0 (fun s u w _ hP => ?_) (by rw [Int.zero_mul]; rfl)
  refine foldl_rel (P := fun a b => a = IntKind.wrap .i64 (b * p.Layers)) _ s u (fun s u res hres hP => ?_) hP
  obtain ⟨h0, h1⟩ := mem_rngI.1 hres
  have hb := Precinct_bd hn h0 (by omega : res ≤ p.Levels)
  rw [hP]
  unfold tfPk
  rw [Grid_cells (by omega) (by omega), wrap_lin]
theorem max_fold {γ : Type} (B : Int) (f : γ → Int) : ∀ (l : List γ) (s : Int), l.foldl (fun s i => (fun c => bif decide (c > s) then c else s) (f i)) s ≤ B ↔ s ≤ B ∧ ∀ i ∈ l, f i ≤ B
  | [], s => by simp
  | x :: l, s => by
    rw [List.foldl_cons, max_fold B f l]
    simp only [List.forall_mem_cons]
    by_cases hc : f x > s
    · simp only [decide_eq_true hc, cond_true]
      constructor
      · rintro ⟨h1, h2⟩; exact ⟨by omega, h1, h2⟩
      · rintro ⟨h1, h2, h3⟩; exact ⟨h2, h3⟩
    · simp only [decide_eq_false hc, cond_false]
      constructor
      · rintro ⟨h1, h2⟩; exact ⟨h1, by omega, h2⟩
      · rintro ⟨h1, h2, h3⟩; exact ⟨h1, h3⟩
theorem max_fold2 {γ δ : Type} (B : Int) (m : List δ) (f : γ → δ → Int) : ∀ (l : List γ) (s : Int), l.foldl (fun s w => m.foldl (fun s i => (fun c => bif decide (c > s) then c else s) (f w i)) s) s ≤ B ↔ s ≤ B ∧ ∀ w ∈ l, ∀ i ∈ m, f w i ≤ B
  | [], s => by simp
  | x :: l, s => by
    rw [List.foldl_cons, max_fold2 B m f l, max_fold B (f x) m]
    simp only [List.forall_mem_cons]
    constructor
    · rintro ⟨⟨h1, h2⟩, h3⟩; exact ⟨h1, h2, h3⟩
    · rintro ⟨h1, h2, h3⟩; exact ⟨⟨h1, h2⟩, h3⟩
theorem Indices_eq {l res : Int} (hl : 0 ≤ l ∧ l ≤ 5) (h0 : 0 ≤ res) (h1 : res ≤ l) : m_pyramid_Indices l res = if res = 0 then [[V.int .i64 0]] else [[V.int .i64 (3 * res - 2)], [V.int .i64 (3 * res - 1)], [V.int .i64 (3 * res)]] := by
  unfold m_pyramid_Indices
  have hv := validLevels_iff.2 hl
  have d1 : ¬ res < 0 := by omega
  have d2 : ¬ res > l := by omega
  simp only [hv, decide_eq_false d1, decide_eq_false d2, Bool.not_true, cond_false]
  by_cases hz : res = 0
  · subst hz; rfl
  · rw [if_neg hz, beq_eq_false_iff_ne.2 hz, w64 (n := 3 * res) (by omega) (by omega), w64 (n := 3 * res - 2) (by omega) (by omega), w64 (n := 3 * res - 1) (by omega) (by omega)]
    rfl
theorem min_exp {x c : Int} : (bif decide (c < x) then c else x) = min c x := by
  by_cases h : c < x
  · simp only [decide_eq_true h, cond_true]; omega
  · simp only [decide_eq_false h, cond_false]; omega
theorem one_res {res : Int} (h0 : 0 ≤ res) : (bif decide (1 < res) then (1 : Int) else res) = min res 1 := by
  by_cases h : 1 < res
  · simp only [decide_eq_true h, cond_true]; omega
  · simp only [decide_eq_false h, cond_false]; omega
theorem blX_eq {p : SParams} (hn : numB p = true) {i res : Int} (hi : (i + 2) / 3 = res) (h0 : 0 ≤ res) (h1 : res ≤ p.Levels) : blX p i = min ((m_params_Precinct p res).X - min res 1) p.BlockX ∧ blY p i = min ((m_params_Precinct p res).Y - min res 1) p.BlockY := by
  have hb := Precinct_bd hn h0 h1
  unfold blX blY
  rw [hi, one_res h0, w64 (by omega) (by omega), w64 (by omega) (by omega)]
  exact ⟨min_exp, min_exp⟩
theorem tfRes_iff {p : SParams} (hn : numB p = true) {r : SRect} {res : Int} (h0 : 0 ≤ res) (h1 : res ≤ p.Levels) : tfRes p r res = true ↔ ∀ i, 0 ≤ i → i ≤ 3 * p.Levels → (i + 2) / 3 = res → blI p r i ≤ 65536 := by
  have hb := Precinct_bd hn h0 h1
  obtain ⟨hL, hX, hY, _, _⟩ := numB_iff hn
  have key : ∀ i, 0 ≤ i → i ≤ 3 * p.Levels → (i + 2) / 3 = res → (blI p r i = m_params_cells (m_pyramid_Band r p.Levels i)
      (bif decide ((bif decide (res > 0) then IntKind.wrap .i64 ((m_params_Precinct p res).X - 1) else (m_params_Precinct p res).X) < p.BlockX) then (bif decide (res > 0) then IntKind.wrap .i64 ((m_params_Precinct p res).X - 1) else (m_params_Precinct p res).X) else p.BlockX)
      (bif decide ((bif decide (res > 0) then IntKind.wrap .i64 ((m_params_Precinct p res).Y - 1) else (m_params_Precinct p res).Y) < p.BlockY) then (bif decide (res > 0) then IntKind.wrap .i64 ((m_params_Precinct p res).Y - 1) else (m_params_Precinct p res).Y) else p.BlockY)) := by
    intro i hi0 hi1 hi
    obtain ⟨e1, e2⟩ := blX_eq hn hi h0 h1
    unfold blI
    rw [R06_Band_eq, e1, e2, Grid_cells (by omega) (by omega), min_exp, min_exp]
    by_cases hr : res > 0
    · simp only [decide_eq_true hr, cond_true]
      rw [w64 (n := (m_params_Precinct p res).X - 1) (by omega) (by omega), w64 (n := (m_params_Precinct p res).Y - 1) (by omega) (by omega), show min res 1 = 1 by omega]
    · simp only [decide_eq_false hr, cond_false]
      rw [show min res 1 = 0 by omega, Int.sub_zero, Int.sub_zero]
  unfold tfRes
  rw [Indices_eq hL h0 h1]
  by_cases hz : res = 0
  · subst hz
    rw [if_pos rfl]
    simp only [List.all_cons, List.all_nil, Bool.and_true, Bool.not_eq_true', decide_eq_false_iff_not]
    constructor
    · intro h i hi0 hi1 hi
      have : i = 0 := by omega
      subst this
      rw [key 0 (by omega) (by omega) (by omega)]
      exact Int.not_lt.1 h
    · intro h
      have := h 0 (by omega) (by omega) (by omega)
      rw [key 0 (by omega) (by omega) (by omega)] at this
      exact Int.not_lt.2 this
  · rw [if_neg hz]
    simp only [List.all_cons, List.all_nil, Bool.and_true, Bool.and_eq_true, Bool.not_eq_true', decide_eq_false_iff_not]
    constructor
    · rintro ⟨ha, hb', hc⟩ i hi0 hi1 hi
      have : i = 3 * res - 2 ∨ i = 3 * res - 1 ∨ i = 3 * res := by omega
      rw [key i hi0 hi1 hi]
      rcases this with rfl | rfl | rfl
      · exact Int.not_lt.1 ha
      · exact Int.not_lt.1 hb'
      · exact Int.not_lt.1 hc
    · intro h
      refine ⟨?_, ?_, ?_⟩
      · have := h (3 * res - 2) (by omega) (by omega) (by omega)
        rw [key _ (by omega) (by omega) (by omega)] at this
        exact Int.not_lt.2 this
      · have := h (3 * res - 1) (by omega) (by omega) (by omega)
        rw [key _ (by omega) (by omega) (by omega)] at this
        exact Int.not_lt.2 this
      · have := h (3 * res) (by omega) (by omega) (by omega)
        rw [key _ (by omega) (by omega) (by omega)] at this
        exact Int.not_lt.2 this
theorem tileFits_ref {h : SHeader} {p : SParams} (hn : numB p = true) (t : SRect) : m_params_tileFits h p t = (!decide (m_R23_Packets h p t > 65536) && !decide (m_R23_Blocks h p t > 65536)) := by
  have hL := (numB_iff hn).1
  unfold m_params_tileFits
  rw [packets_eq hn]
  have e1 : (h.Components.all fun w => (rngI 0 (p.Levels + 1)).all fun res => tfRes p (compRect t w) res) = !decide (m_R23_Blocks h p t > 65536) := by
    rw [Bool.eq_iff_iff]
    simp only [List.all_eq_true, Bool.not_eq_true', decide_eq_false_iff_not]
    have hm := max_fold2 65536 (rngI 0 (3 * p.Levels + 1)) (fun w i => blI p (compRect t w) i) h.Components 0
    have em : m_R23_Blocks h p t = h.Components.foldl (fun s w => (rngI 0 (3 * p.Levels + 1)).foldl (fun s i => (fun c => bif decide (c > s) then c else s) (blI p (compRect t w) i)) s) 0 := rfl
    rw [em]
    constructor
    · intro ha
      refine Int.not_lt.2 (hm.2 ⟨by omega, fun w hw i hi => ?_⟩)
      obtain ⟨hi0, hi1⟩ := mem_rngI.1 hi
      exact (tfRes_iff hn (by omega) (by omega)).1 (ha w hw ((i + 2) / 3) (mem_rngI.2 ⟨by omega, by omega⟩)) i hi0 (by omega) rfl
    · intro ha w hw res hres
      obtain ⟨h0, h1⟩ := mem_rngI.1 hres
      refine (tfRes_iff hn h0 (by omega)).2 fun i hi0 hi1 hi => ?_
      exact (hm.1 (Int.not_lt.1 ha)).2 w hw i (mem_rngI.2 ⟨hi0, by omega⟩)
  have e2 : decide (m_R23_Packets h p t ≤ 65536) = !decide (m_R23_Packets h p t > 65536) := by
    by_cases hc : m_R23_Packets h p t ≤ 65536
    · have : ¬ m_R23_Packets h p t > 65536 := by omega
      simp [hc, this]
    · have : m_R23_Packets h p t > 65536 := by omega
      simp [hc, this]
  rw [e1, e2, Bool.and_comm]
end Go.Vm
