import Derived.Test.YtoldachfmeghkaaGreatWF2
import Derived.Test.YtoldachfmeghkaaGreatWF1
set_option linter.unusedVariables false
set_option linter.unusedSimpArgs false
set_option maxRecDepth 100000
noncomputable section
namespace Go.Vm
open Go.Proofs
theorem ParseCoding_lens {s : SSegment} (hl : lenOK s.Payload = true) : lenOK (m_R29_ParseCoding s).1.Precincts = true ∧ lenOK (m_R29_ParseCoding s).1.Steps = true := by
  unfold m_R29_ParseCoding
  cases h : m_R29_framed s 65442 (codeN s.Payload) != 0 with
  | true => exact ⟨rfl, rfl⟩
  | false =>
    have h6 := framed_ok (by simpa using h)
    have hb := lenOK_iff.1 hl
    have := stepL_len (f := pointRow s.Payload) (d := 1) (n := codeN s.Payload) (by decide) ((codeN s.Payload - 10).toNat + 1) 10 []
    refine ⟨lenOK_iff.2 ?_, rfl⟩
    show (stepL (pointRow s.Payload) 1 (codeN s.Payload) ((codeN s.Payload - 10).toNat + 1) 10 []).length ≤ _
    simp only [List.length_nil] at this
    omega
theorem getD_part {b : Rows} {l : Rows} (h : ∀ w ∈ l, PartOf b w) {i : Nat} (hi : i < l.length) : PartOf b (List.getD l i []) := by
  rw [List.getD_eq_getElem?_getD, List.getElem?_eq_getElem hi]
  exact h _ (List.getElem_mem hi)
theorem FewBytes_pre {b : Rows} (hu : u8All b = true) : pre_R35_FewBytes b = true := by
  unfold pre_R35_FewBytes
  by_cases h1 : (b.length : Int) > 20000
  · simp [h1]
  by_cases h2 : (b.length : Int) < 2
  · simp [h1, h2]
  have hl : lenOK b = true := lenOK_iff.2 (by omega)
  have ha : pre_R28_All b 2 = true := by
    unfold pre_R28_All
    rw [hl, decide_eq_true (show (2 : Int) ≤ (b.length : Int) by omega)]; rfl
  simp only [h1, h2, decide_false, cond_false, ha, cond_true]
  have hall : ∀ w ∈ (m_R28_All b 2).1, PartOf b w := allM_parts hl _ _ _ (fun w h => by cases h)
  generalize (m_R28_All b 2).1 = l at hall ⊢
  cases ((m_R28_All b 2).2.2 != 0) with
  | true => rfl
  | false =>
    simp only [beq_self_eq_true, cond_true]
    by_cases h3 : (l.length : Int) < 3
    · simp [h3]
    have p0 := getD_part hall (i := 0) (by omega)
    have p1 := getD_part hall (i := 1) (by omega)
    have p2 := getD_part hall (i := 2) (by omega)
    have hb := lenOK_iff.1 hl
    have l0 : lenOK (SSegment.of (List.getD l 0 [])).Payload = true := lenOK_iff.2 (by have := p0.len; omega)
    have l1 : lenOK (SSegment.of (List.getD l 1 [])).Payload = true := lenOK_iff.2 (by have := p1.len; omega)
    have l2 : lenOK (SSegment.of (List.getD l 2 [])).Payload = true := lenOK_iff.2 (by have := p2.len; omega)
    have c0 : pre_R29_ParseSize (SSegment.of (List.getD l 0 [])) = true := by unfold pre_R29_ParseSize; rw [l0, p0.u8 hu]; rfl
    have c1 : pre_R29_ParseCoding (SSegment.of (List.getD l 1 [])) = true := l1
    have c2 : pre_R29_ParseQuant (SSegment.of (List.getD l 2 [])) (m_R29_ParseCoding (SSegment.of (List.getD l 1 []))).1 = true := by
      have ⟨q1, q2⟩ := ParseCoding_lens l1
      unfold pre_R29_ParseQuant; rw [l2, q1, q2]; rfl
    simp only [decide_eq_false h3, cond_false, inR_of (i := 0) (n := l.length) (by omega) (by omega), inR_of (i := 1) (n := l.length) (by omega) (by omega), inR_of (i := 2) (n := l.length) (by omega) (by omega), cond_true, c0, c1, c2]
    cases ((m_R29_ParseSize (SSegment.of (List.getD l 0 []))).2 != 0) with
    | true => rfl
    | false =>
      simp only [cond_false]
      cases ((m_R29_ParseCoding (SSegment.of (List.getD l 1 []))).2 != 0) with
      | true => rfl
      | false =>
        simp only [cond_false]
        cases ((m_R29_ParseQuant (SSegment.of (List.getD l 2 [])) (m_R29_ParseCoding (SSegment.of (List.getD l 1 []))).1).2 != 0) <;> rfl
theorem Few48_loop0 {R : Type} (f : SFile) (hl : lenOK f.Meta = true) (e : Option R) (k : V → Option R) (m : Nat) (hm : ((f.Meta.length : Int) - 0).toNat + 1 ≤ m) :
    loop_R48_Few_0 f.Meta (f.Meta.length : Int) f m 0 (fun _ => e) k = bif (rngI 0 (f.Meta.length : Int)).all (fun i => metaFew (List.getD f.Meta i.toNat [])) then e else k (V.bool false) := by
  have hb := lenOK_iff.1 hl
  refine loop_allB (a := 0) (b := (f.Meta.length : Int)) (L := fun m i => loop_R48_Few_0 f.Meta (f.Meta.length : Int) f m i (fun _ => e) k) (fun m i h0 => ?_) m hm
  show step_R48_Few_0 _ _ _ i _ _ k = _
  unfold step_R48_Few_0 metaFew
  by_cases hi : i < (f.Meta.length : Int)
  · simp only [decide_eq_true hi, cond_true, inR_of h0 hi]
    rw [w64 (n := i + 1) (by omega) (by omega)]
    cases decide (((SMeta.of (List.getD f.Meta i.toNat [])).Key.size : Int) > 70) <;> cases decide (((SMeta.of (List.getD f.Meta i.toNat [])).Value.size : Int) > 200) <;> rfl
  · simp only [decide_eq_false hi, cond_false]
theorem Few48_loop2 {R : Type} (l : Rows) (hl : lenOK l = true) (e : Option R) (k : V → Option R) (m : Nat) (hm : ((l.length : Int) - 0).toNat + 1 ≤ m) :
    loop_R48_Few_2 l (l.length : Int) m 0 (fun _ => e) k = bif (rngI 0 (l.length : Int)).all (fun i => !decide (((rowsAt l i).length : Int) > 10)) then e else k (V.bool false) := by
  have hb := lenOK_iff.1 hl
  refine loop_allB (a := 0) (b := (l.length : Int)) (L := fun m i => loop_R48_Few_2 l (l.length : Int) m i (fun _ => e) k) (fun m i h0 => ?_) m hm
  show step_R48_Few_2 _ _ i _ _ k = _
  unfold step_R48_Few_2 rowsAt
  by_cases hi : i < (l.length : Int)
  · simp only [decide_eq_true hi, cond_true, inR_of h0 hi]
    rw [w64 (n := i + 1) (by omega) (by omega)]
    cases decide ((((List.getD (List.getD l i.toNat []) 0 V.undef).toRows.length : Nat) : Int) > 10) <;> rfl
  · simp only [decide_eq_false hi, cond_false]
theorem good_R48_Few_of (h1 : G_R35_FewBytes) : G_R48_Few := mk_R48_Few h1 fun f hp _ => by
  unfold pre_R48_Few at hp
  unfold spec_R48_Few m_R48_Few
  simp only [FewBytes_pre hp, cond_true]
  cases m_R35_FewBytes f.Stream with
  | false => rfl
  | true =>
    by_cases h2 : (f.Meta.length : Int) > 70
    · simp [h2]
    by_cases h3 : (f.Color.Roles.length : Int) > 10
    · simp [h2, h3]
    by_cases h4 : (f.Color.Palette.length : Int) > 300
    · simp [h2, h3, h4]
    simp only [h2, h3, h4, decide_false, Bool.not_true, Bool.not_false, beq_self_eq_true, cond_true, cond_false, Bool.true_and]
    have hi : loop_R48_Few_2 f.Color.Palette (f.Color.Palette.length : Int) (fuel_R48_Few_2 f.Color.Palette (f.Color.Palette.length : Int) 0) 0 (fun _ => some (V.bool true)) some = _ := Few48_loop2 f.Color.Palette (lenOK_iff.2 (by omega)) _ _ _ (Nat.le_refl _)
    refine (Few48_loop0 f (lenOK_iff.2 (by omega)) _ _ _ (Nat.le_refl _)).trans ?_
    rw [hi, rng_all metaFew]
    cases f.Meta.all metaFew <;> cases (rngI 0 (f.Color.Palette.length : Int)).all (fun i => !decide (((rowsAt f.Color.Palette i).length : Int) > 10)) <;> rfl
theorem good_slices_Equal_int_int_of : G_slices_Equal_int_int := mk_slices_Equal_int_int fun a b hp _ => by
  have hl := lenOK_iff.1 hp
  unfold spec_slices_Equal_int_int m_slices_Equal_int_int eqI
  by_cases h : (a.length : Int) = (b.length : Int)
  · have e1 : ((a.length : Int) != (b.length : Int)) = false := by simp [h]
    have e2 : ((a.length : Int) == (b.length : Int)) = true := by simp [h]
    simp only [e1, e2, cond_false, Bool.true_and]
    refine (loop_allB (a := 0) (b := (a.length : Int)) (L := fun m i => loop_slices_Equal_int_int_0 a b (a.length : Int) m i (fun _ => some (V.bool true)) some) (ok := fun i => byteAt a i == byteAt b i) (e := some (V.bool true)) (x := some (V.bool false)) (fun m i h0 => ?_) _ (Nat.le_refl _)).trans ?_
    · show step_slices_Equal_int_int_0 a b _ i _ _ some = _
      unfold step_slices_Equal_int_int_0
      by_cases hi : i < (a.length : Int)
      · simp only [decide_eq_true hi, cond_true, inR_of h0 hi, inR_of (n := b.length) h0 (by omega)]
        rw [w64 (n := i + 1) (by omega) (by omega)]
        show (bif byteAt a i != byteAt b i then _ else _) = _
        cases h3 : byteAt a i == byteAt b i <;> simp only [bne, h3] <;> rfl
      · simp only [decide_eq_false hi, cond_false]
    · cases (rngI 0 (a.length : Int)).all fun i => byteAt a i == byteAt b i <;> rfl
  · have e1 : ((a.length : Int) != (b.length : Int)) = true := by simp [h]
    have e2 : ((a.length : Int) == (b.length : Int)) = false := by simp [h]
    simp only [e1, e2, cond_true, Bool.false_and]
theorem good_R46_sameInts_of : G_R46_sameInts := mk_R46_sameInts fun a b hp _ => by
  have hl := lenOK_iff.1 hp
  unfold spec_R46_sameInts m_R46_sameInts eqI
  by_cases h : (a.length : Int) = (b.length : Int)
  · have e1 : ((a.length : Int) != (b.length : Int)) = false := by simp [h]
    have e2 : ((a.length : Int) == (b.length : Int)) = true := by simp [h]
    simp only [e1, e2, cond_false, Bool.true_and]
    refine (loop_allB (a := 0) (b := (a.length : Int)) (L := fun m i => loop_R46_sameInts_0 a b m i (fun _ => some (V.bool true)) some) (ok := fun i => byteAt a i == byteAt b i) (e := some (V.bool true)) (x := some (V.bool false)) (fun m i h0 => ?_) _ (Nat.le_refl _)).trans ?_
    · show step_R46_sameInts_0 a b i _ _ some = _
      unfold step_R46_sameInts_0
      by_cases hi : i < (a.length : Int)
      · simp only [decide_eq_true hi, cond_true, inR_of h0 hi, inR_of (n := b.length) h0 (by omega)]
        rw [w64 (n := i + 1) (by omega) (by omega)]
        show (bif byteAt a i != byteAt b i then _ else _) = _
        cases h3 : byteAt a i == byteAt b i <;> simp only [bne, h3] <;> rfl
      · simp only [decide_eq_false hi, cond_false]
    · cases (rngI 0 (a.length : Int)).all fun i => byteAt a i == byteAt b i <;> rfl
  · have e1 : ((a.length : Int) != (b.length : Int)) = true := by simp [h]
    have e2 : ((a.length : Int) == (b.length : Int)) = false := by simp [h]
    simp only [e1, e2, cond_true, Bool.false_and]
theorem palOK_iff {l : Rows} (h : palOK l = true) : l.length ≤ 1048576 ∧ ∀ i : Int, 0 ≤ i → i < (l.length : Int) → lenOK (rowsAt l i) = true := by
  unfold palOK at h
  rw [Bool.and_eq_true, List.all_eq_true] at h
  exact ⟨lenOK_iff.1 h.1, fun i h0 h1 => h.2 i (mem_rngI.2 ⟨h0, h1⟩)⟩
theorem good_slices_EqualFunc_int_int_int_int_of (h1 : G_colorspec_Same_1) : G_slices_EqualFunc_int_int_int_int := mk_slices_EqualFunc_int_int_int_int h1 fun a b hp _ => by
  have ⟨hl, hr⟩ := palOK_iff hp
  unfold spec_slices_EqualFunc_int_int_int_int m_slices_EqualFunc_int_int_int_int eqP
  by_cases h : (a.length : Int) = (b.length : Int)
  · have e1 : ((a.length : Int) != (b.length : Int)) = false := by simp [h]
    have e2 : ((a.length : Int) == (b.length : Int)) = true := by simp [h]
    simp only [e1, e2, cond_false, Bool.true_and]
    refine (loop_allB (a := 0) (b := (a.length : Int)) (L := fun m i => loop_slices_EqualFunc_int_int_int_int_0 b a (a.length : Int) m i (fun _ => some (V.bool true)) some) (ok := fun i => eqI (rowsAt a i) (rowsAt b i)) (e := some (V.bool true)) (x := some (V.bool false)) (fun m i h0 => ?_) _ (Nat.le_refl _)).trans ?_
    · show step_slices_EqualFunc_int_int_int_int_0 b a _ i _ _ some = _
      unfold step_slices_EqualFunc_int_int_int_int_0
      by_cases hi : i < (a.length : Int)
      · simp only [decide_eq_true hi, cond_true, inR_of h0 hi, inR_of (n := b.length) h0 (by omega)]
        rw [w64 (n := i + 1) (by omega) (by omega)]
        show (bif pre_colorspec_Same_1 (rowsAt a i) (rowsAt b i) then (bif !m_colorspec_Same_1 (rowsAt a i) (rowsAt b i) then _ else _) else _) = _
        rw [show m_colorspec_Same_1 (rowsAt a i) (rowsAt b i) = eqI (rowsAt a i) (rowsAt b i) from by unfold m_colorspec_Same_1; simp only [show pre_slices_Equal_int_int (rowsAt a i) (rowsAt b i) = true from hr i h0 hi]; rfl,
          show pre_colorspec_Same_1 (rowsAt a i) (rowsAt b i) = true from by unfold pre_colorspec_Same_1; simp only [show pre_slices_Equal_int_int (rowsAt a i) (rowsAt b i) = true from hr i h0 hi]; rfl]
        cases eqI (rowsAt a i) (rowsAt b i) <;> rfl
      · simp only [decide_eq_false hi, cond_false]
    · cases (rngI 0 (a.length : Int)).all fun i => eqI (rowsAt a i) (rowsAt b i) <;> rfl
  · have e1 : ((a.length : Int) != (b.length : Int)) = true := by simp [h]
    have e2 : ((a.length : Int) == (b.length : Int)) = false := by simp [h]
    simp only [e1, e2, cond_true, Bool.false_and]
theorem good_R46_Same_of (h1 : G_R46_sameInts) : G_R46_Same := mk_R46_Same h1 fun a b hp _ => by
  unfold pre_R46_Same at hp
  rw [Bool.and_eq_true] at hp
  have ⟨hl, hr⟩ := palOK_iff hp.2
  unfold spec_R46_Same m_R46_Same eqP
  by_cases h0 : a.Space = b.Space
  · have e1 : (a.Space != b.Space) = false := by simp [h0]
    have e2 : (a.Space == b.Space) = true := by simp [h0]
    simp only [e1, e2, beq_self_eq_true, cond_true, show pre_R46_sameInts a.Roles b.Roles = true from hp.1, Bool.true_and]
    rw [show m_R46_sameInts a.Roles b.Roles = eqI a.Roles b.Roles from rfl]
    cases eqI a.Roles b.Roles with
    | false => rfl
    | true =>
      by_cases h : (a.Palette.length : Int) = (b.Palette.length : Int)
      · have e1 : ((a.Palette.length : Int) != (b.Palette.length : Int)) = false := by simp [h]
        have e2 : ((a.Palette.length : Int) == (b.Palette.length : Int)) = true := by simp [h]
        simp only [e1, e2, cond_false, Bool.true_and, Bool.not_true, beq_self_eq_true, cond_true]
        refine (loop_allB (a := 0) (b := (a.Palette.length : Int)) (L := fun m i => loop_R46_Same_0 a b m i (fun _ => some (V.bool true)) some) (ok := fun i => eqI (rowsAt a.Palette i) (rowsAt b.Palette i)) (e := some (V.bool true)) (x := some (V.bool false)) (fun m i h0 => ?_) _ (Nat.le_refl _)).trans ?_
        · show step_R46_Same_0 a b i _ _ some = _
          unfold step_R46_Same_0
          by_cases hi : i < (a.Palette.length : Int)
          · simp only [decide_eq_true hi, cond_true, inR_of h0 hi, inR_of (n := b.Palette.length) h0 (by omega)]
            rw [w64 (n := i + 1) (by omega) (by omega)]
            show (bif pre_R46_sameInts (rowsAt a.Palette i) (rowsAt b.Palette i) then (bif !m_R46_sameInts (rowsAt a.Palette i) (rowsAt b.Palette i) then _ else _) else _) = _
            rw [show pre_R46_sameInts (rowsAt a.Palette i) (rowsAt b.Palette i) = true from hr i h0 hi, show m_R46_sameInts (rowsAt a.Palette i) (rowsAt b.Palette i) = eqI (rowsAt a.Palette i) (rowsAt b.Palette i) from rfl]
            cases eqI (rowsAt a.Palette i) (rowsAt b.Palette i) <;> rfl
          · simp only [decide_eq_false hi, cond_false]
        · cases (rngI 0 (a.Palette.length : Int)).all fun i => eqI (rowsAt a.Palette i) (rowsAt b.Palette i) <;> rfl
      · have e1 : ((a.Palette.length : Int) != (b.Palette.length : Int)) = true := by simp [h]
        have e2 : ((a.Palette.length : Int) == (b.Palette.length : Int)) = false := by simp [h]
        simp only [e1, e2, cond_true, Bool.false_and, Bool.not_true, beq_self_eq_true, Bool.and_false]
  · have e1 : (a.Space != b.Space) = true := by simp [h0]
    have e2 : (a.Space == b.Space) = false := by simp [h0]
    simp only [e1, e2, Bool.false_and]; rfl
theorem good_R47_Same_of : G_R47_Same := mk_R47_Same fun a b hp _ => by
  have hl := lenOK_iff.1 hp
  unfold spec_R47_Same m_R47_Same eqM
  by_cases h : (a.length : Int) = (b.length : Int)
  · have e1 : ((a.length : Int) != (b.length : Int)) = false := by simp [h]
    have e2 : ((a.length : Int) == (b.length : Int)) = true := by simp [h]
    simp only [e1, e2, cond_false, Bool.true_and]
    refine (loop_allB (a := 0) (b := (a.length : Int)) (L := fun m i => loop_R47_Same_0 a b (a.length : Int) m i (fun _ => some (V.bool true)) some) (ok := fun i => metaEq (SMeta.of (List.getD a i.toNat [])) (SMeta.of (List.getD b i.toNat []))) (e := some (V.bool true)) (x := some (V.bool false)) (fun m i h0 => ?_) _ (Nat.le_refl _)).trans ?_
    · show step_R47_Same_0 a b _ i _ _ some = _
      unfold step_R47_Same_0
      by_cases hi : i < (a.length : Int)
      · simp only [decide_eq_true hi, cond_true, inR_of h0 hi, inR_of (n := b.length) h0 (by omega)]
        rw [w64 (n := i + 1) (by omega) (by omega)]
        show (bif !metaEq (SMeta.of (List.getD a i.toNat [])) (SMeta.of (List.getD b i.toNat [])) then _ else _) = _
        cases metaEq (SMeta.of (List.getD a i.toNat [])) (SMeta.of (List.getD b i.toNat [])) <;> rfl
      · simp only [decide_eq_false hi, cond_false]
    · cases (rngI 0 (a.length : Int)).all fun i => metaEq (SMeta.of (List.getD a i.toNat [])) (SMeta.of (List.getD b i.toNat [])) <;> rfl
  · have e1 : ((a.length : Int) != (b.length : Int)) = true := by simp [h]
    have e2 : ((a.length : Int) == (b.length : Int)) = false := by simp [h]
    simp only [e1, e2, cond_true, Bool.false_and]
end Go.Vm
set_option linter.unusedVariables false
set_option linter.unusedSimpArgs false
set_option maxRecDepth 100000
noncomputable section
namespace Go.Vm
open Go.Proofs
theorem colorspec_Same_eq {a b : SColor} (h1 : lenOK a.Roles = true) (h2 : palOK a.Palette = true) : pre_colorspec_Same a b = true ∧ m_colorspec_Same a b = m_R46_Same a b := by
  unfold pre_colorspec_Same m_colorspec_Same m_R46_Same
  simp only [show pre_slices_Equal_int_int a.Roles b.Roles = true from h1, show pre_slices_EqualFunc_int_int_int_int a.Palette b.Palette = true from h2, show m_slices_Equal_int_int a.Roles b.Roles = eqI a.Roles b.Roles from rfl, show m_slices_EqualFunc_int_int_int_int a.Palette b.Palette = eqP a.Palette b.Palette from rfl, cond_true]
  cases (a.Space == b.Space) <;> cases eqI a.Roles b.Roles <;> exact ⟨rfl, rfl⟩
theorem good_file_Same_of (h1 : G_colorspec_Same) : G_file_Same := mk_file_Same h1 fun a b hp _ => by
  unfold pre_file_Same at hp
  simp only [Bool.and_eq_true] at hp
  obtain ⟨⟨q1, q2⟩, q3⟩ := hp
  have hl := lenOK_iff.1 q3
  unfold spec_file_Same m_file_Same eqM
  rw [(colorspec_Same_eq q1 q2).1, cond_true]
  dsimp only []
  cases m_colorspec_Same a.Color b.Color with
  | false => rfl
  | true =>
    by_cases h : (a.Meta.length : Int) = (b.Meta.length : Int)
    · have e1 : ((a.Meta.length : Int) != (b.Meta.length : Int)) = false := by simp [h]
      have e2 : ((a.Meta.length : Int) == (b.Meta.length : Int)) = true := by simp [h]
      simp only [e1, e2, cond_false, Bool.true_and, Bool.not_true, beq_self_eq_true, cond_true]
      cases (ByteArray.toList (bytesOfRows a.Stream) == ByteArray.toList (bytesOfRows b.Stream)) with
      | false => simp only [Bool.not_false, cond_true, Bool.and_false]
      | true =>
        simp only [Bool.not_true, cond_false, Bool.and_true]
        refine (loop_allB (a := 0) (b := (a.Meta.length : Int)) (L := fun m i => loop_file_Same_0 a.Meta (a.Meta.length : Int) b m i (fun _ => some (V.bool true)) some) (ok := fun i => metaEq (SMeta.of (List.getD a.Meta i.toNat [])) (SMeta.of (List.getD b.Meta i.toNat []))) (e := some (V.bool true)) (x := some (V.bool false)) (fun m i h0 => ?_) _ (Nat.le_refl _)).trans ?_
        · show step_file_Same_0 a.Meta _ b i _ _ some = _
          unfold step_file_Same_0
          by_cases hi : i < (a.Meta.length : Int)
          · simp only [decide_eq_true hi, cond_true, inR_of h0 hi, inR_of (n := b.Meta.length) h0 (by omega)]
            rw [w64 (n := i + 1) (by omega) (by omega)]
            show (bif !metaEq (SMeta.of (List.getD a.Meta i.toNat [])) (SMeta.of (List.getD b.Meta i.toNat [])) then _ else _) = _
            cases metaEq (SMeta.of (List.getD a.Meta i.toNat [])) (SMeta.of (List.getD b.Meta i.toNat [])) <;> rfl
          · simp only [decide_eq_false hi, cond_false]
        · cases (rngI 0 (a.Meta.length : Int)).all fun i => metaEq (SMeta.of (List.getD a.Meta i.toNat [])) (SMeta.of (List.getD b.Meta i.toNat [])) <;> rfl
    · have e1 : ((a.Meta.length : Int) != (b.Meta.length : Int)) = true := by simp [h]
      have e2 : ((a.Meta.length : Int) == (b.Meta.length : Int)) = false := by simp [h]
      simp only [e1, e2, cond_true, Bool.false_and, Bool.not_true, beq_self_eq_true, Bool.and_false]
      rfl
theorem Few48_pre {f : SFile} (h : m_R48_Few f = true) : lenOK f.Color.Roles = true ∧ palOK f.Color.Palette = true ∧ lenOK f.Meta = true := by
  unfold m_R48_Few at h
  simp only [Bool.and_eq_true, Bool.not_eq_true', decide_eq_false_iff_not] at h
  obtain ⟨⟨⟨⟨⟨_, h1⟩, h2⟩, h3⟩, _⟩, h5⟩ := h
  refine ⟨lenOK_iff.2 (by omega), ?_, lenOK_iff.2 (by omega)⟩
  unfold palOK
  rw [lenOK_iff.2 (show f.Color.Palette.length ≤ 1048576 by omega), Bool.true_and]
  rw [List.all_eq_true] at h5 ⊢
  intro i hi
  have := h5 i hi
  simp only [Bool.not_eq_true', decide_eq_false_iff_not] at this
  exact lenOK_iff.2 (by omega)
theorem file_Same_eq {a b : SFile} (h1 : lenOK a.Color.Roles = true) (h2 : palOK a.Color.Palette = true) (h3 : lenOK a.Meta = true) : pre_file_Same a b = true ∧ pre_R48_Same a b = true ∧ m_file_Same a b = m_R48_Same a b := by
  unfold pre_file_Same pre_R48_Same m_file_Same m_R48_Same pre_R46_Same pre_R47_Same m_R47_Same m_R27_SameBytes
  rw [(colorspec_Same_eq h1 h2).2, h1, h2, h3]
  cases m_R46_Same a.Color b.Color <;> cases eqM a.Meta b.Meta <;> exact ⟨rfl, rfl, rfl⟩
theorem eqI_self (a : Rows) : eqI a a = true := by
  unfold eqI
  rw [beq_self_eq_true, Bool.true_and, List.all_eq_true]
  intro i _; exact beq_self_eq_true _
theorem eqP_self (a : Rows) : eqP a a = true := by
  unfold eqP
  rw [beq_self_eq_true, Bool.true_and, List.all_eq_true]
  intro i _; exact eqI_self _
theorem metaEq_self (s : SMeta) : metaEq s s = true := by
  unfold metaEq
  rw [beq_self_eq_true, beq_self_eq_true]; rfl
theorem eqM_self (a : Rows) : eqM a a = true := by
  unfold eqM
  rw [beq_self_eq_true, Bool.true_and, List.all_eq_true]
  intro i _; exact metaEq_self _
theorem file_Same_self {a : SFile} (h1 : lenOK a.Color.Roles = true) (h2 : palOK a.Color.Palette = true) : m_file_Same a a = true := by
  unfold m_file_Same
  rw [(colorspec_Same_eq h1 h2).2, eqM_self, beq_self_eq_true]
  unfold m_R46_Same
  rw [beq_self_eq_true, eqI_self, eqP_self]; rfl
theorem good_L48_awake_of (h1 : G_file_Parse) (h2 : G_file_Valid) : G_L48_awake := mk_L48_awake h1 h2 fun _ => by kernel_rfl
theorem good_L48_FileSame_of (h1 : G_R48_Few) (h2 : G_L48_awake) (h3 : G_file_Same) (h4 : G_R48_Same) : G_L48_FileSame := mk_L48_FileSame h1 h2 h3 h4 fun a b hp _ => by
  unfold pre_L48_FileSame at hp
  rw [Bool.and_eq_true] at hp
  unfold spec_L48_FileSame
  rw [show pre_R48_Few a = true from hp.1, show pre_R48_Few b = true from hp.2]
  cases ha : m_R48_Few a with
  | false => rfl
  | true =>
    cases hb : m_R48_Few b with
    | false => rfl
    | true =>
      obtain ⟨a1, a2, a3⟩ := Few48_pre ha
      obtain ⟨e1, e2, e3⟩ := file_Same_eq (b := b) a1 a2 a3
      simp only [Bool.not_true, beq_self_eq_true, cond_true, cond_false, e1, e2, e3, (file_Same_eq (b := a) a1 a2 a3).1, file_Same_self a1 a2]
      rfl
end Go.Vm
