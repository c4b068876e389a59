import Derived.Test.YtoldachfmeghkaaGreatWA
set_option linter.unusedVariables false
set_option linter.unusedSimpArgs false
set_option maxRecDepth 100000
noncomputable section
namespace Go.Vm
open Go.Proofs
theorem lenOK_iff {l : Rows} : lenOK l = true ↔ l.length ≤ 1048576 := by
  unfold lenOK; exact ⟨Nat.le_of_ble_eq_true, Nat.ble_eq_true_of_le⟩
theorem u8All_at {l : Rows} (h : u8All l = true) (i : Int) : 0 ≤ byteAt l i ∧ byteAt l i ≤ 255 := by
  unfold byteAt
  rw [List.getD_eq_getElem?_getD (l := l)]
  cases hg : l[i.toNat]? with
  | none => exact ⟨Int.le_refl 0, by show (0 : Int) ≤ 255; decide⟩
  | some w =>
    unfold u8All at h
    have := List.all_eq_true.1 h w (List.mem_of_getElem? hg)
    simpa using this
theorem step_R28_ReadUint_eq {R : Type} (b : Rows) (a n v i : Int) (again kn : Int → Int → Option R) (ha : 0 ≤ a) (h0 : 0 ≤ i) (hn : a + n ≤ (b.length : Int)) (hl : b.length ≤ 1048576) :
    step_R28_ReadUint_0 b a n v i again kn = bif decide (i < n) then again (intBits .or .i64 (IntKind.wrap .i64 (v * 2 ^ 8)) (IntKind.wrap .i64 (byteAt b (a + i)))) (i + 1) else kn v i := by
  unfold step_R28_ReadUint_0
  by_cases hi : i < n
  · simp only [decide_eq_true hi, cond_true]
    rw [w64 (n := a + i) (by omega) (by omega), inR_of (by omega) (by omega), w64 (n := i + 1) (by omega) (by omega)]
    rfl
  · simp only [decide_eq_false hi, cond_false]
theorem good_R28_ReadUint_of : G_R28_ReadUint := mk_R28_ReadUint fun b a n hp _ => by
  have hl := lenOK_iff.1 hp
  unfold spec_R28_ReadUint m_R28_ReadUint
  by_cases h1 : n < 1
  · simp [h1]
  by_cases h2 : n > 4
  · simp [h1, h2]
  by_cases h3 : a < 0
  · simp [h1, h2, h3]
  by_cases h4 : a > (b.length : Int)
  · simp [h1, h2, h3, h4]
  have e1 : IntKind.wrap .i64 ((b.length : Int) - a) = (b.length : Int) - a := w64 (by omega) (by omega)
  simp only [h1, h2, h3, h4, decide_false, cond_false, cond_true, beq_self_eq_true, e1, Bool.or_false]
  by_cases h5 : (b.length : Int) - a < n
  · simp only [decide_eq_true h5, cond_true]
  simp only [decide_eq_false h5, cond_false]
  exact loop_foldB (b := n) (L := fun m i v => loop_R28_ReadUint_0 b a n m v i (fun v _ => some (V.tup [V.int .i64 v, V.int .i64 0]))) (e := fun v => some (V.tup [V.int .i64 v, V.int .i64 0])) (fun i _ => 0 ≤ i)
    (fun m i v h0 => step_R28_ReadUint_eq b a n v i _ _ (by omega) h0 (by omega) hl) (fun i s h0 _ => by omega) _ 0 0 (Int.le_refl 0) (Nat.le_refl _)
theorem R28_ReadUint_ok {b : Rows} {a : Int} (h : (m_R28_ReadUint b a 2).2 = 0) : 0 ≤ a ∧ a + 2 ≤ (b.length : Int) := by
  unfold m_R28_ReadUint at h
  by_cases h3 : a < 0
  · simp [h3] at h
  by_cases h4 : a > (b.length : Int)
  · simp [h3, h4] at h
  by_cases h5 : (b.length : Int) - a < 2
  · simp [h3, h4, h5] at h
  omega
theorem R28_Read_facts {b : Rows} {a : Int} (hl : lenOK b = true) :
    pre_R28_Read b a = true ∧ ((m_R28_Read b a).2.2 = 0 → a + 2 ≤ (m_R28_Read b a).2.1 ∧ (m_R28_Read b a).2.1 ≤ (b.length : Int) ∧ 0 ≤ a ∧ ∃ i j, (m_R28_Read b a).1.Payload = List.drop i (List.take j b)) := by
  have hb := lenOK_iff.1 hl
  unfold pre_R28_Read m_R28_Read
  have hp : ∀ a n, pre_R28_ReadUint b a n = true := fun _ _ => hl
  by_cases h3 : a < 0
  · simp [h3]
  by_cases h4 : a > (b.length : Int)
  · simp [h3, h4]
  simp only [h3, h4, decide_false, beq_self_eq_true, cond_true, cond_false, hp]
  by_cases h5 : (m_R28_ReadUint b a 2).2 = 0
  · have ⟨h6, h7⟩ := R28_ReadUint_ok h5
    have e2 : IntKind.wrap .i64 (a + 2) = a + 2 := w64 (by omega) (by omega)
    have e4 : IntKind.wrap .i64 (a + 4) = a + 4 := w64 (by omega) (by omega)
    have e5 : IntKind.wrap .i64 ((b.length : Int) - a) = (b.length : Int) - a := w64 (by omega) (by omega)
    have e6 : IntKind.wrap .i64 ((b.length : Int) - a - 2) = (b.length : Int) - a - 2 := w64 (by omega) (by omega)
    simp only [h5, bne_self_eq_false, cond_false, e2, e4, e5, e6]
    cases m_R28_Known (m_R28_ReadUint b a 2).1 with
    | false => simp
    | true =>
      cases m_R28_Bare (m_R28_ReadUint b a 2).1 with
      | true => exact ⟨rfl, fun _ => ⟨Int.le_refl _, h7, h6, 0, 0, rfl⟩⟩
      | false =>
        simp only [Bool.not_true, cond_false]
        by_cases h8 : (m_R28_ReadUint b (a + 2) 2).2 = 0
        · have ⟨_, h9⟩ := R28_ReadUint_ok h8
          simp only [h8, bne_self_eq_false, cond_false]
          generalize (m_R28_ReadUint b (a + 2) 2).1 = n
          by_cases h10 : n < 2
          · simp [h10]
          by_cases h11 : (b.length : Int) - a - 2 < n
          · simp [h10, h11]
          have e7 : IntKind.wrap .i64 (a + 2 + n) = a + 2 + n := w64 (by omega) (by omega)
          have c1 : decide ((0 : Int) ≤ a + 4) = true := by simp; omega
          have c2 : decide (a + 4 ≤ a + 2 + n) = true := by simp; omega
          have c3 : decide (a + 2 + n ≤ (b.length : Int)) = true := by simp; omega
          have hr : roomOK (0 + (List.drop (Int.toNat (a + 4)) (List.take (Int.toNat (a + 2 + n)) b)).length) 1 = true := room_of (by rw [List.length_drop, List.length_take]; omega)
          simp only [h10, h11, decide_false, cond_false, e7, c1, c2, c3, Bool.and_self, cond_true, hr]
          exact ⟨trivial, fun _ => ⟨by omega, by omega, h6, _, _, List.nil_append _⟩⟩
        · simp only [bne_iff_ne.2 h8, cond_true]
          exact ⟨trivial, fun h => absurd h h8⟩
  · simp only [bne_iff_ne.2 h5, cond_true]
    exact ⟨trivial, fun h => absurd h h5⟩
def PartOf (b : Rows) (w : List V) : Prop := ∃ s : SSegment, w = SSegment.row s ∧ ∃ i j, s.Payload = List.drop i (List.take j b)
theorem PartOf.len {b : Rows} {w : List V} (h : PartOf b w) : (SSegment.of w).Payload.length ≤ b.length := by
  obtain ⟨s, rfl, i, j, e⟩ := h
  show s.Payload.length ≤ _
  rw [e, List.length_drop, List.length_take]; omega
theorem PartOf.u8 {b : Rows} {w : List V} (h : PartOf b w) (hu : u8All b = true) : u8All (SSegment.of w).Payload = true := by
  obtain ⟨s, rfl, i, j, e⟩ := h
  show u8All s.Payload = true
  rw [e]
  unfold u8All at hu ⊢
  rw [List.all_eq_true] at hu ⊢
  intro x hx
  exact hu x (List.mem_of_mem_take (List.mem_of_mem_drop hx))
theorem allM_parts {b : Rows} (hl : lenOK b = true) : ∀ (n : Nat) (a : Int) (l : Rows), (∀ w ∈ l, PartOf b w) → ∀ w ∈ (allM b n a l).1, PartOf b w
  | 0, a, l, h => h
  | n + 1, a, l, h => by
    unfold allM
    cases (((m_R28_ReadUint b a 2).2 == 0) && (((m_R28_ReadUint b a 2).1 == 65456) || ((m_R28_ReadUint b a 2).1 == 65458) || ((m_R28_ReadUint b a 2).1 == 65455))) with
    | true => exact h
    | false =>
      simp only [cond_false]
      by_cases h0 : (m_R28_Read b a).2.2 = 0
      · simp only [h0, bne_self_eq_false, cond_false]
        refine allM_parts hl n _ _ fun w hw => ?_
        rcases List.mem_append.1 hw with hw | hw
        · exact h w hw
        · obtain ⟨_, _, _, i, j, e⟩ := (R28_Read_facts hl).2 h0
          exact ⟨_, List.mem_singleton.1 hw, i, j, e⟩
      · simp only [bne_iff_ne.2 h0, cond_true]
        intro w hw; cases hw
theorem R28_All_loop {R : Type} {b : Rows} (hl : lenOK b = true) (k : V → Option R) : ∀ (n : Nat) (a : Int) (l : Rows), 0 ≤ a → a ≤ (b.length : Int) → 2 * (l.length : Int) ≤ a → ((b.length : Int) - a).toNat + 1 ≤ n →
    loop_R28_All_0 b n a l (fun _ r => k (V.tup [V.data SSegment.sh r, V.undef, V.undef])) k = k (V.tup [V.data SSegment.sh (allM b n a l).1, V.int .i64 (allM b n a l).2.1, V.int .i64 (allM b n a l).2.2])
  | 0, a, l, h0, h1, h2, h3 => by omega
  | n + 1, a, l, h0, h1, h2, h3 => by
    have hb := lenOK_iff.1 hl
    show step_R28_All_0 b a l (fun y z => loop_R28_All_0 b n y z _ k) _ k = _
    unfold step_R28_All_0 allM
    have ⟨hp, hf⟩ := R28_Read_facts (a := a) hl
    simp only [hp, cond_true, show pre_R28_ReadUint b a 2 = true from hl]
    have hroom : roomOK (l.length + 1) 32 = true := room_of (by omega)
    have hrec : (m_R28_Read b a).2.2 = 0 → loop_R28_All_0 b n (m_R28_Read b a).2.1 (l ++ [SSegment.row (m_R28_Read b a).1]) (fun _ r => k (V.tup [V.data SSegment.sh r, V.undef, V.undef])) k = k (V.tup [V.data SSegment.sh (allM b n (m_R28_Read b a).2.1 (l ++ [SSegment.row (m_R28_Read b a).1])).1, V.int .i64 (allM b n (m_R28_Read b a).2.1 (l ++ [SSegment.row (m_R28_Read b a).1])).2.1, V.int .i64 (allM b n (m_R28_Read b a).2.1 (l ++ [SSegment.row (m_R28_Read b a).1])).2.2]) := fun h => by
      obtain ⟨g1, g2, _⟩ := hf h
      exact R28_All_loop hl k n _ _ (by omega) g2 (by rw [List.length_append]; simp; omega) (by omega)
    cases h4 : (m_R28_ReadUint b a 2).2 == 0 with
    | true =>
      simp only [beq_self_eq_true, cond_true, Bool.true_and]
      cases h5 : (m_R28_ReadUint b a 2).1 == 65456 with
      | true => rfl
      | false =>
        cases h6 : (m_R28_ReadUint b a 2).1 == 65458 with
        | true => rfl
        | false =>
          cases h7 : (m_R28_ReadUint b a 2).1 == 65455 with
          | true => rfl
          | false =>
            simp only [cond_false, Bool.or_self]
            cases h8 : (m_R28_Read b a).2.2 != 0 with
            | true => rfl
            | false =>
              simp only [cond_false, hroom, cond_true]
              exact hrec (by simpa using h8)
    | false =>
      simp only [Bool.false_and, cond_false]
      cases h8 : (m_R28_Read b a).2.2 != 0 with
      | true => rfl
      | false =>
        simp only [cond_false, hroom, cond_true]
        exact hrec (by simpa using h8)
theorem good_R28_All_of (h1 : G_R28_Read) (h2 : G_R28_ReadUint) : G_R28_All := mk_R28_All h1 h2 fun b a hp _ => by
  unfold pre_R28_All at hp
  simp only [Bool.and_eq_true, decide_eq_true_eq] at hp
  exact R28_All_loop hp.1.1 some (b.length + 3) a [] hp.1.2 hp.2 (by simpa using hp.1.2) (by omega)
theorem step_R29_get_eq {R : Type} (b : Rows) (a n v i : Int) (again kn : Int → Int → Option R) (ha : 0 ≤ a) (h0 : 0 ≤ i) (hn : a + n ≤ (b.length : Int)) (hl : b.length ≤ 1048576) :
    step_R29_get_0 b a n v i again kn = bif decide (i < n) then again (IntKind.wrap .i64 (IntKind.wrap .i64 (256 * v) + IntKind.wrap .i64 (byteAt b (a + i)))) (i + 1) else kn v i := by
  unfold step_R29_get_0
  by_cases hi : i < n
  · simp only [decide_eq_true hi, cond_true]
    rw [w64 (n := a + i) (by omega) (by omega), inR_of (by omega) (by omega), w64 (n := i + 1) (by omega) (by omega)]
    rfl
  · simp only [decide_eq_false hi, cond_false]
theorem good_R29_get_of : G_R29_get := mk_R29_get fun b a n hp _ => by
  unfold pre_R29_get at hp
  simp only [Bool.and_eq_true, decide_eq_true_eq] at hp
  have hl := lenOK_iff.1 hp.1.1
  exact loop_foldB (b := n) (L := fun m i v => loop_R29_get_0 b a n m v i (fun v _ => some (V.int .i64 v))) (e := fun v => some (V.int .i64 v)) (fun i _ => 0 ≤ i)
    (fun m i v h0 => step_R29_get_eq b a n v i _ _ hp.1.2 h0 hp.2 hl) (fun i s h0 _ => by omega) _ 0 0 (Int.le_refl 0) (Nat.le_refl _)
theorem get_pre {b : Rows} (hl : lenOK b = true) {a n : Int} (h0 : 0 ≤ a) (h1 : a + n ≤ (b.length : Int)) : pre_R29_get b a n = true := by
  unfold pre_R29_get
  rw [hl, decide_eq_true h0, decide_eq_true h1]; rfl
theorem framed_ok {s : SSegment} {c n : Int} (h : m_R29_framed s c n = 0) : (s.Payload.length : Int) = n := by
  unfold m_R29_framed at h
  by_cases h1 : s.Code = c
  · by_cases h2 : (s.Payload.length : Int) < n
    · simp [h1, h2] at h
    · by_cases h3 : (s.Payload.length : Int) > n
      · simp [h1, h2, h3] at h
      · omega
  · simp [bne_iff_ne.2 h1] at h
end Go.Vm
set_option linter.unusedVariables false
set_option linter.unusedSimpArgs false
set_option maxRecDepth 100000
noncomputable section
namespace Go.Vm
open Go.Proofs
theorem stepL_loop {R : Type} {d n : Int} (hd : 0 < d) {f : Int → List V} {L : Nat → Int → Rows → Option R} {e : Rows → Option R} (I : Int → Prop)
    (hs : ∀ m i l, 0 ≤ i → I i → (l.length : Int) ≤ i → L (m + 1) i l = bif decide (i < n) then L m (i + d) (l ++ [f i]) else e l) (hI : ∀ i, I i → I (i + d)) :
    ∀ (m k : Nat) (i : Int) (l : Rows), 0 ≤ i → I i → (l.length : Int) ≤ i → (n - i).toNat + 1 ≤ m → (n - i).toNat + 1 ≤ k → L m i l = e (stepL f d n k i l)
  | 0, _, i, l, _, _, _, hm, _ => by omega
  | _, 0, i, l, _, _, _, _, hk => by omega
  | m + 1, k + 1, i, l, h0, hi, hl, hm, hk => by
    rw [hs m i l h0 hi hl]
    unfold stepL
    by_cases h : i < n
    · simp only [decide_eq_true h, cond_true]
      exact stepL_loop hd I hs hI m k (i + d) (l ++ [f i]) (by omega) (hI i hi) (by rw [List.length_append]; simp; omega) (by omega) (by omega)
    · simp only [decide_eq_false h, cond_false]
theorem stepL_len {d n : Int} {f : Int → List V} (hd : 1 ≤ d) : ∀ (k : Nat) (i : Int) (l : Rows), ((stepL f d n k i l).length : Int) ≤ (l.length : Int) + (n - i).toNat
  | 0, i, l => by show (l.length : Int) ≤ _; omega
  | k + 1, i, l => by
    unfold stepL
    by_cases h : i < n
    · simp only [decide_eq_true h, cond_true]
      have := stepL_len (f := f) (n := n) hd k (i + d) (l ++ [f i])
      rw [List.length_append] at this
      simp only [List.length_cons, List.length_nil] at this
      omega
    · simp only [decide_eq_false h, cond_false]; omega
theorem good_R29_ParseSize_of (h1 : G_R29_framed) (h2 : G_R29_get) (h3 : G_R23_Header) : G_R29_ParseSize := mk_R29_ParseSize h1 h2 h3 fun s hp _ => by
  unfold pre_R29_ParseSize at hp
  rw [Bool.and_eq_true] at hp
  obtain ⟨hl, hu⟩ := hp
  have hb := lenOK_iff.1 hl
  unfold spec_R29_ParseSize m_R29_ParseSize
  by_cases h4 : (s.Payload.length : Int) ≥ 13
  · have e0 : sizeN s.Payload = IntKind.wrap .i64 (13 + IntKind.wrap .i64 (3 * IntKind.wrap .i64 (byteAt s.Payload 12))) := by unfold sizeN; rw [decide_eq_true h4]; rfl
    simp only [decide_eq_true h4, cond_true, inR_of (i := 12) (by omega) (show (12 : Int) < (s.Payload.length : Int) by omega)]
    rw [show V.toInt (List.getD (List.getD s.Payload 12 []) 0 V.undef) = byteAt s.Payload 12 from rfl, ← e0]
    cases h5 : m_R29_framed s 65441 (sizeN s.Payload) != 0 with
    | true => rfl
    | false =>
      have h6 := framed_ok (by simpa using h5)
      have ⟨hb0, hb1⟩ := u8All_at hu 12
      rw [w64 (n := byteAt s.Payload 12) (by omega) (by omega), w64 (n := 3 * byteAt s.Payload 12) (by omega) (by omega), w64 (by omega) (by omega)] at e0
      simp only [cond_false, get_pre hl (show (0 : Int) ≤ 0 by decide) (show 0 + 2 ≤ (s.Payload.length : Int) by omega), get_pre hl (show (0 : Int) ≤ 2 by decide) (show 2 + 2 ≤ (s.Payload.length : Int) by omega),
        get_pre hl (show (0 : Int) ≤ 4 by decide) (show 4 + 2 ≤ (s.Payload.length : Int) by omega), get_pre hl (show (0 : Int) ≤ 6 by decide) (show 6 + 2 ≤ (s.Payload.length : Int) by omega),
        get_pre hl (show (0 : Int) ≤ 8 by decide) (show 8 + 2 ≤ (s.Payload.length : Int) by omega), get_pre hl (show (0 : Int) ≤ 10 by decide) (show 10 + 2 ≤ (s.Payload.length : Int) by omega), cond_true]
      generalize m_R29_get s.Payload 0 2 = x0
      generalize m_R29_get s.Payload 2 2 = x1
      generalize m_R29_get s.Payload 4 2 = x2
      generalize m_R29_get s.Payload 6 2 = x3
      generalize m_R29_get s.Payload 8 2 = x4
      generalize m_R29_get s.Payload 10 2 = x5
      have key : ∀ e : Rows → Option V, loop_R29_ParseSize_0 (sizeN s.Payload) s.Payload 0 0 0 0 0 0 x0 x1 x2 x3 x4 x5 [] ((sizeN s.Payload - 13).toNat + 1) 13 [] (fun _ l => e l) = e (stepL (compRow s.Payload) 3 (sizeN s.Payload) ((sizeN s.Payload - 13).toNat + 1) 13 []) := fun e => by
       refine (stepL_loop (n := sizeN s.Payload) (d := 3) (by decide) (f := compRow s.Payload) (L := fun m i l => loop_R29_ParseSize_0 (sizeN s.Payload) s.Payload 0 0 0 0 0 0 x0 x1 x2 x3 x4 x5 [] m i l (fun _ l => e l)) (e := e) (fun i => 13 ≤ i ∧ ∃ q, i = 13 + 3 * q) (fun m i l h0 hi hll => ?_) (fun i hi => ⟨by omega, by obtain ⟨q, hq⟩ := hi.2; exact ⟨q + 1, by omega⟩⟩) _ ((sizeN s.Payload - 13).toNat + 1) 13 [] (by decide) ⟨by decide, 0, rfl⟩ (by decide) (Nat.le_refl _) (Nat.le_refl _))
       show step_R29_ParseSize_0 _ _ _ _ _ _ _ _ _ _ _ _ _ _ _ i l _ _ = _
       unfold step_R29_ParseSize_0
       by_cases h7 : i < sizeN s.Payload
       · obtain ⟨q, hq⟩ := hi.2
         have hroom : roomOK (l.length + 1) 32 = true := room_of (by omega)
         simp only [decide_eq_true h7, cond_true, hroom]
         rw [w64 (n := i + 1) (by omega) (by omega), w64 (n := i + 2) (by omega) (by omega), w64 (n := i + 3) (by omega) (by omega), inR_of (i := i) (by omega) (by omega), inR_of (i := i + 1) (by omega) (by omega), inR_of (i := i + 2) (by omega) (by omega)]
         rfl
       · simp only [decide_eq_false h7, cond_false]
      refine (key _).trans ?_
      cases (m_R23_Header ⟨⟨x0, x1, x2, x3⟩, x4, x5, stepL (compRow s.Payload) 3 (sizeN s.Payload) ((sizeN s.Payload - 13).toNat + 1) 13 []⟩ != 0) <;> rfl
  · have e0 : sizeN s.Payload = 13 := by unfold sizeN; rw [decide_eq_false h4]; rfl
    simp only [decide_eq_false h4, cond_false, e0]
    cases h5 : m_R29_framed s 65441 13 != 0 with
    | true => rfl
    | false =>
      have h6 := framed_ok (by simpa using h5)
      omega
theorem good_R29_ParseCoding_of (h1 : G_R29_framed) : G_R29_ParseCoding := mk_R29_ParseCoding h1 fun s hl _ => by
  have hb := lenOK_iff.1 hl
  unfold spec_R29_ParseCoding m_R29_ParseCoding
  by_cases h4 : (s.Payload.length : Int) ≥ 10
  · have e0 : codeN s.Payload = IntKind.wrap .i64 (10 + IntKind.wrap .i64 (byteAt s.Payload 9)) := by unfold codeN; rw [decide_eq_true h4]; rfl
    simp only [decide_eq_true h4, cond_true, inR_of (i := 9) (by omega) (show (9 : Int) < (s.Payload.length : Int) by omega)]
    rw [show V.toInt (List.getD (List.getD s.Payload 9 []) 0 V.undef) = byteAt s.Payload 9 from rfl, ← e0]
    cases h5 : m_R29_framed s 65442 (codeN s.Payload) != 0 with
    | true => rfl
    | false =>
      have h6 := framed_ok (by simpa using h5)
      simp only [cond_false, inR_of (i := 0) (by omega) (show (0 : Int) < (s.Payload.length : Int) by omega), inR_of (i := 1) (by omega) (show (1 : Int) < (s.Payload.length : Int) by omega), inR_of (i := 2) (by omega) (show (2 : Int) < (s.Payload.length : Int) by omega),
        inR_of (i := 3) (by omega) (show (3 : Int) < (s.Payload.length : Int) by omega), inR_of (i := 4) (by omega) (show (4 : Int) < (s.Payload.length : Int) by omega), inR_of (i := 5) (by omega) (show (5 : Int) < (s.Payload.length : Int) by omega),
        inR_of (i := 6) (by omega) (show (6 : Int) < (s.Payload.length : Int) by omega), inR_of (i := 7) (by omega) (show (7 : Int) < (s.Payload.length : Int) by omega), inR_of (i := 8) (by omega) (show (8 : Int) < (s.Payload.length : Int) by omega), cond_true]
      have key : ∀ a0 a1 a2 a3 a4 a5 a6 a7 a8 a9 a10 a11 a12 a13 a14 a15 a16 a17 a18 a19 a20 a21 a22 a23 a24 a25 a26 a27 a28 a29 a30 a31 a32 a33 a34 a35 a36 (e : Rows → Option V), loop_R29_ParseCoding_0 (codeN s.Payload) s.Payload a0 a1 a2 a3 a4 a5 a6 a7 a8 a9 a10 a11 a12 a13 a14 a15 a16 a17 a18 a19 a20 a21 a22 a23 a24 a25 a26 a27 a28 a29 a30 a31 a32 a33 a34 a35 a36 ((codeN s.Payload - 10).toNat + 1) 10 [] (fun _ l => e l) = e (stepL (pointRow s.Payload) 1 (codeN s.Payload) ((codeN s.Payload - 10).toNat + 1) 10 []) := by
       intro a0 a1 a2 a3 a4 a5 a6 a7 a8 a9 a10 a11 a12 a13 a14 a15 a16 a17 a18 a19 a20 a21 a22 a23 a24 a25 a26 a27 a28 a29 a30 a31 a32 a33 a34 a35 a36 e
       refine (stepL_loop (n := codeN s.Payload) (d := 1) (by decide) (f := pointRow s.Payload) (L := fun m i l => loop_R29_ParseCoding_0 (codeN s.Payload) s.Payload a0 a1 a2 a3 a4 a5 a6 a7 a8 a9 a10 a11 a12 a13 a14 a15 a16 a17 a18 a19 a20 a21 a22 a23 a24 a25 a26 a27 a28 a29 a30 a31 a32 a33 a34 a35 a36 m i l (fun _ l => e l)) (e := e) (fun i => 10 ≤ i) (fun m i l h0 hi hll => ?_) (fun i hi => by omega) _ ((codeN s.Payload - 10).toNat + 1) 10 [] (by decide) (by decide) (by decide) (Nat.le_refl _) (Nat.le_refl _))
       show step_R29_ParseCoding_0 (codeN s.Payload) s.Payload a0 a1 a2 a3 a4 a5 a6 a7 a8 a9 a10 a11 a12 a13 a14 a15 a16 a17 a18 a19 a20 a21 a22 a23 a24 a25 a26 a27 a28 a29 a30 a31 a32 a33 a34 a35 a36 i l _ _ = _
       unfold step_R29_ParseCoding_0
       by_cases h7 : i < codeN s.Payload
       · have hroom : roomOK (l.length + 1) 16 = true := room_of (by omega)
         simp only [decide_eq_true h7, cond_true, hroom]
         rw [w64 (n := i + 1) (by omega) (by omega), inR_of (i := i) (by omega) (by omega)]
         rfl
       · simp only [decide_eq_false h7, cond_false]
      exact key _ _ _ _ _ _ _ _ _ _ _ _ _ _ _ _ _ _ _ _ _ _ _ _ _ _ _ _ _ _ _ _ _ _ _ _ _ _
  · have e0 : codeN s.Payload = 10 := by unfold codeN; rw [decide_eq_false h4]; rfl
    simp only [decide_eq_false h4, cond_false, e0]
    cases h5 : m_R29_framed s 65442 10 != 0 with
    | true => rfl
    | false =>
      have h6 := framed_ok (by simpa using h5)
      omega
theorem wrap_even {x : Int} (h : x % 2 = 0) : IntKind.wrap .i64 x % 2 = 0 := by
  obtain ⟨k, e⟩ := wrap_ex x
  rw [e]; omega
theorem good_R29_ParseQuant_of (h1 : G_R29_framed) (h2 : G_R29_get) (h3 : G_R23_Clone) : G_R29_ParseQuant := mk_R29_ParseQuant h1 h2 h3 fun s p hp _ => by
  unfold pre_R29_ParseQuant at hp
  simp only [Bool.and_eq_true] at hp
  obtain ⟨⟨hl, hpp⟩, hps⟩ := hp
  have hb := lenOK_iff.1 hl
  have hb1 := lenOK_iff.1 hpp
  have hb2 := lenOK_iff.1 hps
  unfold spec_R29_ParseQuant m_R29_ParseQuant
  have r0 : roomOK ((0 : Nat) + ([] : Rows).length) 32 = true := by decide
  have r1 : roomOK ((0 : Nat) + p.Precincts.length) 16 = true := room_of (by omega)
  have r2 : roomOK ((0 : Nat) + p.Steps.length) 8 = true := room_of (by omega)
  have c1 : pre_R23_Clone ⟨⟨0, 0, 0, 0⟩, 0, 0, []⟩ p = true := by unfold pre_R23_Clone; simp only [r0, r1, r2, cond_true]
  have c2 : m_R23_Clone ⟨⟨0, 0, 0, 0⟩, 0, 0, []⟩ p = (⟨⟨0, 0, 0, 0⟩, 0, 0, []⟩, p) := by unfold m_R23_Clone; simp only [r0, r1, r2, cond_true]; rfl
  by_cases h4 : (s.Payload.length : Int) ≥ 2
  · have e0 : quantN s.Payload = IntKind.wrap .i64 (2 + IntKind.wrap .i64 (2 * IntKind.wrap .i64 (byteAt s.Payload 1))) := by unfold quantN; rw [decide_eq_true h4]; rfl
    have ev : quantN s.Payload % 2 = 0 := by
      rw [e0]
      refine wrap_even ?_
      have := wrap_even (x := 2 * IntKind.wrap .i64 (byteAt s.Payload 1)) (by omega)
      omega
    simp only [decide_eq_true h4, cond_true, inR_of (i := 1) (by omega) (show (1 : Int) < (s.Payload.length : Int) by omega)]
    rw [show V.toInt (List.getD (List.getD s.Payload 1 []) 0 V.undef) = byteAt s.Payload 1 from rfl, ← e0]
    cases h5 : m_R29_framed s 65443 (quantN s.Payload) != 0 with
    | true => rfl
    | false =>
      have h6 := framed_ok (by simpa using h5)
      simp only [cond_false, c1, c2, inR_of (i := 0) (by omega) (show (0 : Int) < (s.Payload.length : Int) by omega), cond_true]
      have key : ∀ a0 a1 a2 a3 a4 a5 a6 a7 a8 a9 a10 a11 a12 a13 a14 a15 a16 a17 a18 a19 a20 a21 a22 a23 a24 a25 a26 a27 a28 a29 a30 a31 a32 (e : Rows → Option V), loop_R29_ParseQuant_0 (quantN s.Payload) s a0 a1 a2 a3 a4 a5 a6 a7 a8 a9 a10 a11 a12 a13 a14 a15 a16 a17 a18 a19 a20 a21 a22 a23 a24 a25 a26 a27 a28 a29 a30 a31 a32 ((quantN s.Payload - 2).toNat + 1) 2 [] (fun _ l => e l) = e (stepL (quantRow s.Payload) 2 (quantN s.Payload) ((quantN s.Payload - 2).toNat + 1) 2 []) := by
       intro a0 a1 a2 a3 a4 a5 a6 a7 a8 a9 a10 a11 a12 a13 a14 a15 a16 a17 a18 a19 a20 a21 a22 a23 a24 a25 a26 a27 a28 a29 a30 a31 a32 e
       refine (stepL_loop (n := quantN s.Payload) (d := 2) (by decide) (f := quantRow s.Payload) (L := fun m i l => loop_R29_ParseQuant_0 (quantN s.Payload) s a0 a1 a2 a3 a4 a5 a6 a7 a8 a9 a10 a11 a12 a13 a14 a15 a16 a17 a18 a19 a20 a21 a22 a23 a24 a25 a26 a27 a28 a29 a30 a31 a32 m i l (fun _ l => e l)) (e := e) (fun i => 2 ≤ i ∧ i % 2 = 0) (fun m i l h0 hi hll => ?_) (fun i hi => by omega) _ ((quantN s.Payload - 2).toNat + 1) 2 [] (by decide) (by decide) (by decide) (Nat.le_refl _) (Nat.le_refl _))
       show step_R29_ParseQuant_0 (quantN s.Payload) s a0 a1 a2 a3 a4 a5 a6 a7 a8 a9 a10 a11 a12 a13 a14 a15 a16 a17 a18 a19 a20 a21 a22 a23 a24 a25 a26 a27 a28 a29 a30 a31 a32 i l _ _ = _
       unfold step_R29_ParseQuant_0
       by_cases h7 : i < quantN s.Payload
       · have hroom : roomOK (l.length + 1) 8 = true := room_of (by omega)
         simp only [decide_eq_true h7, cond_true, hroom]
         rw [w64 (n := i + 2) (by omega) (by omega), get_pre hl (a := i) (n := 2) (by omega) (by omega)]
         rfl
       · simp only [decide_eq_false h7, cond_false]
      exact key _ _ _ _ _ _ _ _ _ _ _ _ _ _ _ _ _ _ _ _ _ _ _ _ _ _ _ _ _ _ _ _ _ _
  · have e0 : quantN s.Payload = 2 := by unfold quantN; rw [decide_eq_false h4]; rfl
    simp only [decide_eq_false h4, cond_false, e0]
    cases h5 : m_R29_framed s 65443 2 != 0 with
    | true => rfl
    | false =>
      have h6 := framed_ok (by simpa using h5)
      omega
end Go.Vm
