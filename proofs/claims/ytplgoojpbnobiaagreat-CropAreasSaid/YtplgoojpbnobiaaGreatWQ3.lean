import Derived.Test.YtplgoojpbnobiaaGreatWQ2
set_option linter.unusedVariables false
set_option linter.unusedSimpArgs false
set_option maxRecDepth 100000
noncomputable section
namespace Go.Vm
open Go.Proofs
theorem foldl_filter {α β : Type} (p : α → Bool) (f : α → β) : ∀ (l : List α) (s : List β), l.foldl (fun s x => bif p x then s ++ [f x] else s) s = s ++ (l.filter p).map f
  | [], s => by simp
  | x :: l, s => by
    rw [List.foldl_cons, foldl_filter p f l]
    cases h : p x with
    | true => rw [List.filter_cons_of_pos h, List.map_cons, cond_true, List.append_assoc]; rfl
    | false => rw [List.filter_cons_of_neg (by simp [h]), cond_false]
theorem cellsL_length (r : SRect) (w h : Int) : (cellsL r w h).length ≤ 16777216 := by
  unfold cellsL
  cases hk : cellsOK r w h with
  | false => exact Nat.zero_le _
  | true =>
    unfold cellsOK at hk
    simp only [Bool.and_eq_true, Bool.not_eq_true', decide_eq_false_iff_not] at hk
    obtain ⟨⟨⟨⟨hv, _⟩, hw⟩, hh⟩, _⟩ := hk
    obtain ⟨b1, b2, b3, b4⟩ := cells_guard hv hw hh
    rw [cond_true, List.length_flatMap]
    have : (fun (j : Int) => ((rngI (m_rect_FloorDiv r.X0 w) (m_rect_CeilDiv r.X1 w)).map fun i => cellOf r w h j i).length) = fun _ => (m_rect_CeilDiv r.X1 w - m_rect_FloorDiv r.X0 w).toNat := by
      funext j; rw [List.length_map, length_rngI]
    rw [this, List.map_const', List.sum_replicate_nat, length_rngI]
    exact mul_small (by omega) (by omega)
theorem tiles_length (h : SHeader) : (m_layout_Tiles h).length ≤ 16777216 := by
  unfold m_layout_Tiles
  simp only []
  cases (m_params_Header h != 0) with
  | true => exact Nat.zero_le _
  | false =>
    show (m_rect_Cells _ _ _).length ≤ _
    unfold m_rect_Cells
    rw [List.length_map]
    exact cellsL_length _ _ _
theorem R24_Tiles_eq : m_R24_Tiles = m_layout_Tiles := rfl
def hit (l : Rows) (w : SRect) (i : Int) : Bool := !m_rect_Empty (m_rect_Intersect (SRect.of (List.getD l i.toNat [])) w)
def rowAt (l : Rows) (i : Int) : List V := SRect.row (SRect.of (List.getD l i.toNat []))
theorem touched_0 {R : Type} (l : Rows) (w : SRect) (hl : l.length ≤ 16777216) (e : Rows → Option R) (m : Nat) (hm : ((l.length : Int) - 0).toNat + 1 ≤ m) :
    loop_crop_touched_0 l (l.length : Int) w m 0 [] (fun _ z => e z) = e (((rngI 0 (l.length : Int)).filter (hit l w)).map (rowAt l)) := by
  refine (loop_foldB (b := (l.length : Int)) (L := fun n i s => loop_crop_touched_0 l (l.length : Int) w n i s (fun _ z => e z)) (g := fun s i => bif hit l w i then s ++ [rowAt l i] else s) (e := e) (fun i t => 0 ≤ i ∧ t.length ≤ i.toNat) ?_ ?_ m 0 [] ⟨Int.le_refl 0, Nat.zero_le _⟩ hm).trans ?_
  · intro n i t ⟨h0, hb⟩
    show step_crop_touched_0 l (l.length : Int) w i t _ _ = _
    unfold step_crop_touched_0 hit rowAt
    by_cases hi : i < (l.length : Int)
    · have hroom : roomOK (t.length + 1) 32 = true := room_of (by omega)
      simp only [decide_eq_true hi, cond_true, inR_of h0 hi, hroom]
      rw [w64 (n := i + 1) (by omega) (by omega)]
      cases m_rect_Empty (m_rect_Intersect (SRect.of (List.getD l i.toNat [])) w) <;> rfl
    · simp only [decide_eq_false hi, cond_false]
  · intro i t ⟨h0, hb⟩ hi
    refine ⟨by omega, ?_⟩
    show (bif hit l w i then t ++ [rowAt l i] else t).length ≤ _
    cases hit l w i with
    | true =>
      rw [cond_true, List.length_append]
      show t.length + 1 ≤ _
      omega
    | false => rw [cond_false]; omega
  · rw [foldl_filter (hit l w) (rowAt l), List.nil_append]
theorem R44_Area_0 {R : Type} (l : Rows) (w : SRect) (hl : l.length ≤ 16777216) (e : Rows → Option R) (m : Nat) (hm : ((l.length : Int) - 0).toNat + 1 ≤ m) :
    loop_R44_Area_0 l w 0 0 0 0 m 0 [] (fun _ z => e z) = e (((rngI 0 (l.length : Int)).filter (hit l w)).map (rowAt l)) := by
  refine (loop_foldB (b := (l.length : Int)) (L := fun n i s => loop_R44_Area_0 l w 0 0 0 0 n i s (fun _ z => e z)) (g := fun s i => bif hit l w i then s ++ [rowAt l i] else s) (e := e) (fun i t => 0 ≤ i ∧ t.length ≤ i.toNat) ?_ ?_ m 0 [] ⟨Int.le_refl 0, Nat.zero_le _⟩ hm).trans ?_
  · intro n i t ⟨h0, hb⟩
    show step_R44_Area_0 l w 0 0 0 0 i t _ _ = _
    unfold step_R44_Area_0 hit rowAt
    rw [R01_Empty_eq, R01_Intersect_eq]
    by_cases hi : i < (l.length : Int)
    · have hroom : roomOK (t.length + 1) 32 = true := room_of (by omega)
      simp only [decide_eq_true hi, cond_true, inR_of h0 hi, hroom]
      rw [w64 (n := i + 1) (by omega) (by omega)]
      cases m_rect_Empty (m_rect_Intersect (SRect.of (List.getD l i.toNat [])) w) <;> rfl
    · simp only [decide_eq_false hi, cond_false]
  · intro i t ⟨h0, hb⟩ hi
    refine ⟨by omega, ?_⟩
    show (bif hit l w i then t ++ [rowAt l i] else t).length ≤ _
    cases hit l w i with
    | true =>
      rw [cond_true, List.length_append]
      show t.length + 1 ≤ _
      omega
    | false => rw [cond_false]; omega
  · rw [foldl_filter (hit l w) (rowAt l), List.nil_append]
theorem touched_eq (h : SHeader) (w : SRect) : m_crop_touched h w = ((rngI 0 ((m_layout_Tiles h).length : Int)).filter (hit (m_layout_Tiles h) w)).map (rowAt (m_layout_Tiles h)) := rfl
theorem touched_length (h : SHeader) (w : SRect) : (m_crop_touched h w).length ≤ 16777216 := by
  rw [touched_eq, List.length_map]
  have h1 := List.length_filter_le (hit (m_layout_Tiles h) w) (rngI 0 ((m_layout_Tiles h).length : Int))
  rw [length_rngI] at h1
  have := tiles_length h
  omega
theorem good_crop_touched_of (h1 : G_rect_Empty) (h2 : G_layout_Tiles) (h3 : G_rect_Intersect) : G_crop_touched := mk_crop_touched h1 h2 h3 fun h w _ =>
  touched_0 (R := V) (m_layout_Tiles h) w (tiles_length h) (fun z => some (V.data SRect.sh z)) _ (Nat.le_refl _)
theorem step_Bound {R : Type} (l : Rows) (s : Bool × SRect) (i : Int) (again kn : Bool → Int → Int → Int → Int → Int → Option R) (h0 : 0 ≤ i) (hl : l.length ≤ 1099511627776) :
    step_rect_Bound_0 l (l.length : Int) 0 0 0 0 s.1 i s.2.X0 s.2.Y0 s.2.X1 s.2.Y1 again kn =
    bif decide (i < (l.length : Int)) then (fun (q : Bool × SRect) => again q.1 (i + 1) q.2.X0 q.2.Y0 q.2.X1 q.2.Y1) (boundStep s (SRect.of (l.getD i.toNat []))) else kn s.1 i s.2.X0 s.2.Y0 s.2.X1 s.2.Y1 := by
  unfold step_rect_Bound_0 boundStep
  by_cases hi : i < (l.length : Int)
  · simp only [decide_eq_true hi, cond_true, inR_of h0 hi]
    rw [w64 (n := i + 1) (by omega) (by omega)]
    obtain ⟨b, r⟩ := s
    cases m_rect_Empty (SRect.of (l.getD i.toNat [])) <;> cases b <;> rfl
  · simp only [decide_eq_false hi, cond_false]
theorem good_rect_Bound_of (h1 : G_rect_Empty) : G_rect_Bound := mk_rect_Bound h1 fun l hp _ => by
  have hl : l.length ≤ 1099511627776 := Nat.le_of_ble_eq_true hp
  have h := loop_foldB (b := (l.length : Int)) (S := Bool × SRect) (L := fun n i s => loop_rect_Bound_0 l (l.length : Int) 0 0 0 0 n s.1 i s.2.X0 s.2.Y0 s.2.X1 s.2.Y1 (fun _ _ a b c d => some (V.agg [V.int .i64 a, V.int .i64 b, V.int .i64 c, V.int .i64 d]))) (g := fun s i => boundStep s (SRect.of (l.getD i.toNat []))) (e := fun s => some (SRect.v s.2)) (fun i _ => 0 ≤ i)
    (fun n i s h0 => step_Bound l s i _ _ h0 hl) (fun i s h0 _ => by omega) _ 0 (false, ⟨0, 0, 0, 0⟩) (Int.le_refl 0) (Nat.le_refl _)
  refine Eq.trans h ?_
  rw [rng_foldl (fun s w => boundStep s (SRect.of w))]
  rfl
def boundR (o r : SRect) : SRect := bif m_rect_Empty r then o else bif m_rect_Empty o then r else ⟨bif decide (r.X0 < o.X0) then r.X0 else o.X0, bif decide (r.Y0 < o.Y0) then r.Y0 else o.Y0, bif decide (r.X1 > o.X1) then r.X1 else o.X1, bif decide (r.Y1 > o.Y1) then r.Y1 else o.Y1⟩
theorem step_RBound {R : Type} (l : Rows) (s : SRect) (i : Int) (again kn : Int → Int → Int → Int → Int → Option R) (h0 : 0 ≤ i) (hl : l.length ≤ 1099511627776) :
    step_R01_Bound_0 l 0 0 0 0 i s.X0 s.Y0 s.X1 s.Y1 again kn =
    bif decide (i < (l.length : Int)) then (fun (q : SRect) => again (i + 1) q.X0 q.Y0 q.X1 q.Y1) (boundR s (SRect.of (l.getD i.toNat []))) else kn i s.X0 s.Y0 s.X1 s.Y1 := by
  unfold step_R01_Bound_0 boundR
  rw [R01_Empty_eq]
  have e1 : ∀ x : Int, decide (x < x) = false := fun x => by simp
  have e2 : ∀ x : Int, decide (x > x) = false := fun x => by simp
  by_cases hi : i < (l.length : Int)
  · simp only [decide_eq_true hi, cond_true, inR_of h0 hi, e1, e2, cond_false]
    rw [w64 (n := i + 1) (by omega) (by omega)]
    obtain ⟨a, b, c, d⟩ := s
    cases m_rect_Empty (SRect.of (l.getD i.toNat [])) <;> cases m_rect_Empty ⟨a, b, c, d⟩ <;> rfl
  · simp only [decide_eq_false hi, cond_false]
def boundI (s : Bool × SRect) : Prop := (s.1 = false ∧ s.2 = ⟨0, 0, 0, 0⟩) ∨ (s.1 = true ∧ m_rect_Empty s.2 = false)
theorem bound_step {s : Bool × SRect} (h : boundI s) (r : SRect) : boundI (boundStep s r) ∧ boundR s.2 r = (boundStep s r).2 := by
  obtain ⟨b, o⟩ := s
  unfold boundStep boundR
  cases hr : m_rect_Empty r with
  | true => exact ⟨h, rfl⟩
  | false =>
    rcases h with ⟨rfl, h2⟩ | ⟨rfl, h2⟩
    · simp only at h2
      subst h2
      exact ⟨.inr ⟨rfl, hr⟩, rfl⟩
    · simp only at h2
      simp only [h2, cond_false, Bool.not_true]
      refine ⟨.inr ⟨rfl, ?_⟩, trivial⟩
      rw [Empty_f] at h2 hr ⊢
      simp only
      constructor
      · by_cases a1 : r.X0 < o.X0 <;> by_cases a2 : r.X1 > o.X1 <;> simp only [a1, a2, decide_true, decide_false, cond_true, cond_false] <;> omega
      · by_cases a1 : r.Y0 < o.Y0 <;> by_cases a2 : r.Y1 > o.Y1 <;> simp only [a1, a2, decide_true, decide_false, cond_true, cond_false] <;> omega
theorem bound_fold : ∀ (l : Rows) (s : Bool × SRect), boundI s → l.foldl (fun o w => boundR o (SRect.of w)) s.2 = (l.foldl (fun s w => boundStep s (SRect.of w)) s).2
  | [], s, _ => rfl
  | w :: l, s, h => by
    obtain ⟨h1, h2⟩ := bound_step h (SRect.of w)
    rw [List.foldl_cons, List.foldl_cons, h2]
    exact bound_fold l _ h1
theorem good_R01_Bound_of (h1 : G_R01_Empty) : G_R01_Bound := mk_R01_Bound h1 fun l hp _ => by
  have hl : l.length ≤ 1099511627776 := Nat.le_of_ble_eq_true hp
  have h := loop_foldB (b := (l.length : Int)) (S := SRect) (L := fun n i s => loop_R01_Bound_0 l 0 0 0 0 n i s.X0 s.Y0 s.X1 s.Y1 (fun _ a b c d => some (V.agg [V.int .i64 a, V.int .i64 b, V.int .i64 c, V.int .i64 d]))) (g := fun s i => boundR s (SRect.of (l.getD i.toNat []))) (e := fun s => some (SRect.v s)) (fun i _ => 0 ≤ i)
    (fun n i s h0 => step_RBound l s i _ _ h0 hl) (fun i s h0 _ => by omega) _ 0 ⟨0, 0, 0, 0⟩ (Int.le_refl 0) (Nat.le_refl _)
  refine Eq.trans h ?_
  rw [rng_foldl (fun s w => boundR s (SRect.of w)), bound_fold l (false, ⟨0, 0, 0, 0⟩) (.inl ⟨rfl, rfl⟩)]
  rfl
theorem head_ok {h : SHeader} (hz : m_params_Header h = 0) : headOK h = true ∧ ¬ nTiles h > 1024 := by
  unfold m_params_Header at hz
  cases ha : headOK h with
  | false => rw [ha] at hz; cases hz
  | true =>
    cases hb : h.Components.all (compOK h.Area) with
    | false => rw [ha, hb] at hz; cases hz
    | true =>
      by_cases hc : nTiles h > 1024
      · rw [ha, hb, decide_eq_true hc] at hz; cases hz
      · exact ⟨rfl, hc⟩
theorem tiles_cells {h : SHeader} (hz : m_params_Header h = 0) : m_layout_Tiles h = (cellsL h.Area h.TileW h.TileH).map SRect.row := by
  unfold m_layout_Tiles
  simp only [hz, bne_self_eq_false, cond_false]
  rfl
theorem cells_ok {h : SHeader} (hz : m_params_Header h = 0) : cellsOK h.Area h.TileW h.TileH = true := by
  obtain ⟨h1, h2⟩ := head_ok hz
  unfold headOK at h1
  simp only [Bool.and_eq_true, inB_iff] at h1
  obtain ⟨⟨⟨⟨a1, a2⟩, a3⟩, a4⟩, _⟩ := h1
  unfold cellsOK
  unfold nTiles at h2
  simp only [a1, a2, Bool.true_and, Bool.and_eq_true, Bool.not_eq_true', decide_eq_false_iff_not]
  omega
theorem of_row (r : SRect) : SRect.of (SRect.row r) = r := rfl
theorem hit_mem {h : SHeader} (hz : m_params_Header h = 0) (w : SRect) : (m_crop_touched h w).length = 0 ↔ ∀ c ∈ cellsL h.Area h.TileW h.TileH, m_rect_Empty (m_rect_Intersect c w) = true := by
  rw [touched_eq, List.length_map, List.length_eq_zero_iff, List.filter_eq_nil_iff, tiles_cells hz]
  constructor
  · intro k c hc
    obtain ⟨i, hi, rfl⟩ := List.mem_iff_getElem.1 hc
    have := k (i : Int) (by unfold rngI; rw [List.mem_map]; refine ⟨i, ?_, by omega⟩; rw [List.mem_range]; simp; omega)
    unfold hit at this
    rw [Int.toNat_natCast, List.getD_eq_getElem?_getD, List.getElem?_map, List.getElem?_eq_getElem hi] at this
    simpa [of_row] using this
  · intro k i hi
    unfold rngI at hi
    obtain ⟨n, hn, rfl⟩ := List.mem_map.1 hi
    rw [List.mem_range, List.length_map] at hn
    have hn' : n < (cellsL h.Area h.TileW h.TileH).length := by omega
    have := k _ (List.getElem_mem hn')
    unfold hit
    rw [show (0 + (n : Int)).toNat = n by omega, List.getD_eq_getElem?_getD, List.getElem?_map, List.getElem?_eq_getElem hn']
    simpa [of_row] using this
theorem ceil_up {x w : Int} (hx : 0 ≤ x) (hx2 : x ≤ 4096) (hw : 1 ≤ w) : x ≤ w * m_rect_CeilDiv x w := by
  rw [CeilDiv_eq hx (by omega) hw]
  have hm := Int.mul_ediv_add_emod x w
  have h3 := Int.emod_lt_of_pos x (show 0 < w by omega)
  by_cases h : x % w > 0
  · simp only [decide_eq_true h, cond_true, Int.mul_add, Int.mul_one]; omega
  · simp only [decide_eq_false h, cond_false]; omega
theorem at_cell {p lo hi w : Int} (h0 : 0 ≤ lo) (h1 : lo ≤ p) (h2 : p < hi) (h3 : hi ≤ 4096) (hw : 1 ≤ w) :
    (m_rect_FloorDiv lo w ≤ p / w ∧ p / w < m_rect_CeilDiv hi w) ∧ (p / w * w ≤ p ∧ p < (p / w + 1) * w) ∧ 0 ≤ p / w ∧ p / w ≤ 4096 := by
  rw [FloorDiv_eq h0 (by omega) hw]
  have hm := Int.mul_ediv_add_emod p w
  have h4 := Int.emod_lt_of_pos p (show 0 < w by omega)
  have h5 := Int.emod_nonneg p (show w ≠ 0 by omega)
  have h6 : lo / w ≤ p / w := Int.ediv_le_ediv (by omega) h1
  have h7 := ceil_up (x := hi) (w := w) (by omega) h3 hw
  have h8 : 0 ≤ p / w := Int.ediv_nonneg (by omega) (by omega)
  have h9 : p / w ≤ p := Int.ediv_le_self _ (by omega)
  have h10 : p / w * w = w * (p / w) := Int.mul_comm _ _
  have h11 : (p / w + 1) * w = w * (p / w) + w := by rw [Int.add_mul, h10, Int.one_mul]
  refine ⟨⟨h6, ?_⟩, ⟨by omega, by omega⟩, h8, by omega⟩
  apply Int.lt_of_mul_lt_mul_left (a := w) _ (by omega)
  omega
theorem small_mul {a b : Int} (ha : 0 ≤ a) (ha2 : a ≤ 4097) (hb : 1 ≤ b) (hb2 : b ≤ 4096) : 0 ≤ a * b ∧ a * b ≤ 16781312 := by
  have h1 := Int.mul_nonneg ha (show 0 ≤ b by omega)
  have h2 := Int.mul_le_mul ha2 hb2 (by omega) (by omega)
  omega
theorem zero_empty : m_rect_Empty ⟨0, 0, 0, 0⟩ = true := Empty_iff.2 (.inl (Int.le_refl 0))
theorem touch_iff {h : SHeader} (hz : m_params_Header h = 0) {w : SRect} (hw : m_rect_Valid w = true) : (m_crop_touched h w).length = 0 ↔ m_rect_Empty (m_rect_Intersect h.Area w) = true := by
  rw [hit_mem hz]
  have hk := cells_ok hz
  have hk' := hk
  unfold cellsOK at hk'
  simp only [Bool.and_eq_true, Bool.not_eq_true', decide_eq_false_iff_not] at hk'
  obtain ⟨⟨⟨⟨hv, hne⟩, hw1⟩, hh1⟩, _⟩ := hk'
  obtain ⟨⟨a1, a2, a3⟩, a4, a5, a6⟩ := Valid_iff.1 hv
  obtain ⟨⟨w1, w2, w3⟩, w4, w5, w6⟩ := Valid_iff.1 hw
  have hhead := (head_ok hz).1
  unfold headOK at hhead
  simp only [Bool.and_eq_true, inB_iff] at hhead
  obtain ⟨⟨⟨_, t1⟩, t2⟩, _⟩ := hhead
  constructor
  · intro k
    apply Decidable.byContradiction
    intro hn
    rw [Bool.not_eq_true, Intersect_eq] at hn
    split at hn
    · rename_i hx
      obtain ⟨hx, hy⟩ := hx
      obtain ⟨⟨i1, i2⟩, ⟨i3, i4⟩, i5, i6⟩ := at_cell (p := max h.Area.X0 w.X0) (lo := h.Area.X0) (hi := h.Area.X1) (w := h.TileW) a1 (by omega) (by omega) a3 (by omega)
      obtain ⟨⟨j1, j2⟩, ⟨j3, j4⟩, j5, j6⟩ := at_cell (p := max h.Area.Y0 w.Y0) (lo := h.Area.Y0) (hi := h.Area.Y1) (w := h.TileH) a4 (by omega) (by omega) a6 (by omega)
      generalize max h.Area.X0 w.X0 / h.TileW = i at *
      generalize max h.Area.Y0 w.Y0 / h.TileH = j at *
      have hc : cellOf h.Area h.TileW h.TileH j i ∈ cellsL h.Area h.TileW h.TileH := by
        unfold cellsL
        rw [hk, cond_true, List.mem_flatMap]
        refine ⟨j, ?_, List.mem_map.2 ⟨i, ?_, rfl⟩⟩
        · unfold rngI; rw [List.mem_map]; exact ⟨(j - m_rect_FloorDiv h.Area.Y0 h.TileH).toNat, by rw [List.mem_range]; omega, by omega⟩
        · unfold rngI; rw [List.mem_map]; exact ⟨(i - m_rect_FloorDiv h.Area.X0 h.TileW).toNat, by rw [List.mem_range]; omega, by omega⟩
      have := k _ hc
      unfold cellOf at this
      have m1 := small_mul (a := i) (b := h.TileW) i5 (by omega) t1.1 t1.2
      have m2 := small_mul (a := j) (b := h.TileH) j5 (by omega) t2.1 t2.2
      have m3 := small_mul (a := i + 1) (b := h.TileW) (by omega) (by omega) t1.1 t1.2
      have m4 := small_mul (a := j + 1) (b := h.TileH) (by omega) (by omega) t2.1 t2.2
      rw [w64 (n := i + 1) (by omega) (by omega), w64 (n := j + 1) (by omega) (by omega), w64 (n := i * h.TileW) (by omega) (by omega), w64 (n := j * h.TileH) (by omega) (by omega), w64 (n := (i + 1) * h.TileW) (by omega) (by omega), w64 (n := (j + 1) * h.TileH) (by omega) (by omega)] at this
      generalize i * h.TileW = q1 at *
      generalize (i + 1) * h.TileW = q2 at *
      generalize j * h.TileH = q3 at *
      generalize (j + 1) * h.TileH = q4 at *
      rw [Intersect_eq h.Area, if_pos (by simp only; omega), Intersect_eq, if_pos (by simp only; omega), Empty_iff] at this
      simp only at this
      omega
    · cases hn
  · intro k c hc
    unfold cellsL at hc
    rw [hk, cond_true, List.mem_flatMap] at hc
    obtain ⟨j, _, hc⟩ := hc
    obtain ⟨i, _, rfl⟩ := List.mem_map.1 hc
    obtain ⟨z, e⟩ : ∃ z, cellOf h.Area h.TileW h.TileH j i = m_rect_Intersect h.Area z := ⟨_, rfl⟩
    rw [e]
    rw [Intersect_eq] at k
    rw [Intersect_eq h.Area]
    split
    · rename_i h1
      rw [Intersect_eq]
      split
      · rename_i h2
        simp only at h2
        have hp : max h.Area.X0 w.X0 < min h.Area.X1 w.X1 ∧ max h.Area.Y0 w.Y0 < min h.Area.Y1 w.Y1 := by
          clear k hk hv hw t1 t2 e hc
          omega
        rw [if_pos hp, Empty_iff] at k
        simp only at k
        exfalso
        clear hk hv hw t1 t2 e hc h1 h2
        omega
      · exact zero_empty
    · rw [Intersect_eq, if_neg (by simp only; omega)]; exact zero_empty
theorem crop_pre (h : SHeader) (w : SRect) : pre_crop_Area h w = true := by
  have hb : pre_rect_Bound (m_crop_touched h w) = true := Nat.ble_eq_true_of_le (by have := touched_length h w; omega)
  unfold pre_crop_Area
  simp only [hb, cond_true, Bool.cond_self]
theorem R44_spec (h : SHeader) (w : SRect) : spec_R44_Area h w some = some (V.tup [(SRect.v (m_crop_Area h w).1), (V.int .i64 (m_crop_Area h w).2)]) := by
  have hb : pre_rect_Bound (m_crop_touched h w) = true := Nat.ble_eq_true_of_le (by have := touched_length h w; omega)
  unfold spec_R44_Area m_crop_Area m_R23_Header
  rw [R01_Valid_eq, R01_Empty_eq, R01_Intersect_eq, R24_Tiles_eq]
  by_cases hz : m_params_Header h = 0
  · cases hv : m_rect_Valid w with
    | false => simp only [hz, bne_self_eq_false, cond_false]; rfl
    | true =>
      have ht := touch_iff hz hv
      simp only [hz, bne_self_eq_false, cond_false, Bool.not_true, beq_self_eq_true, cond_true, hb]
      cases he : m_rect_Empty (m_rect_Intersect h.Area w) with
      | true =>
        have e : ((((m_crop_touched h w).length : Nat) : Int) == 0) = true := by rw [ht.2 he]; rfl
        simp only [e, cond_true]; rfl
      | false =>
        have e : ((((m_crop_touched h w).length : Nat) : Int) == 0) = false := by
          rw [beq_eq_false_iff_ne]
          intro hn
          rw [ht.1 (by omega)] at he; cases he
        simp only [e, cond_false]
        refine (R44_Area_0 (R := V) (m_layout_Tiles h) w (tiles_length h) (fun z => bif pre_R01_Bound z then some (V.tup [SRect.v (m_R01_Bound z), V.int .i64 0]) else none) _ (Nat.le_refl _)).trans ?_
        rw [← touched_eq]
        show (bif pre_rect_Bound (m_crop_touched h w) then _ else _) = _
        rw [hb]; rfl
  · have hb := bne_iff_ne.2 hz
    simp only [hb, cond_true]
    rfl
theorem good_R44_Area_of (h1 : G_R23_Header) (h2 : G_R01_Valid) (h3 : G_R01_Empty) (h4 : G_R01_Intersect) (h5 : G_R24_Tiles) (h6 : G_R01_Bound) : G_R44_Area := mk_R44_Area h1 h2 h3 h4 h5 h6 fun h w _ => R44_spec h w
theorem good_L44_exampleHolds_of (h1 : G_crop_Area) (h2 : G_crop_Join) (h3 : G_crop_Replace) : G_L44_exampleHolds := mk_L44_exampleHolds h1 h2 h3 fun _ => by kernel_rfl
theorem good_L44_CropAreas_of (h1 : G_L44_exampleHolds) (h2 : G_crop_Area) (h3 : G_R44_Area) : G_L44_CropAreas := mk_L44_CropAreas h1 h2 h3 fun h w _ => by
  unfold spec_L44_CropAreas m_R44_Area
  by_cases hl : (h.Components.length : Int) > 20
  · simp only [decide_eq_true hl, cond_true]; rfl
  simp only [decide_eq_false hl, cond_false, crop_pre, cond_true, beq_self_eq_true, Bool.and_self]
  rfl
end Go.Vm
