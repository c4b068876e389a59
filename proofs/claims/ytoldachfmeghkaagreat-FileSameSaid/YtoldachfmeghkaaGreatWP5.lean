import Derived.Test.YtoldachfmeghkaaGreatWP4
set_option linter.unusedVariables false
set_option linter.unusedSimpArgs false
set_option maxRecDepth 100000
noncomputable section
namespace Go.Vm
open Go.Proofs
theorem pre_Grid_of {r : SRect} {a b : Int} (ha : 0 ≤ a) (hb : 0 ≤ b) : pre_R23_Grid r a b = true := by
  unfold pre_R23_Grid
  cases m_R01_Empty r with
  | true => rfl
  | false => simp only [decide_eq_true ha, decide_eq_true hb, cond_true, cond_false]
def pkRes (p : SParams) (r : SRect) (res : Int) : Int := m_R23_Grid (m_pyramid_Resolution r p.Levels res) (m_params_Precinct p res).X (m_params_Precinct p res).Y
theorem step_Pk_2 {R : Type} (j : Int) (h : SHeader) (p : SParams) (t r : SRect) (s res : Int) (again kn : Int → Int → Option R) (h0 : 0 ≤ res) (hl : p.Levels ≤ 5) (hp : ∀ res, 0 ≤ res → res ≤ p.Levels → 0 ≤ (m_params_Precinct p res).X ∧ 0 ≤ (m_params_Precinct p res).Y) :
    step_R23_Packets_2 j h p t r s res again kn = bif decide (res < p.Levels + 1) then again (IntKind.wrap .i64 (s + pkRes p r res)) (res + 1) else kn s res := by
  unfold step_R23_Packets_2
  rw [R23_Precinct_eq]
  by_cases hi : res ≤ p.Levels
  · have hi' : res < p.Levels + 1 := by omega
    obtain ⟨hx, hy⟩ := hp res h0 hi
    simp only [decide_eq_true hi, decide_eq_true hi', cond_true, pre_Grid_of hx hy]
    rw [w64 (n := res + 1) (by omega) (by omega)]
    rfl
  · have hi' : ¬ res < p.Levels + 1 := by omega
    simp only [decide_eq_false hi, decide_eq_false hi', cond_false]
theorem loop_Pk_2 {R : Type} (j : Int) (h : SHeader) (p : SParams) (t r : SRect) (s : Int) (e : Int → Option R) (hl : p.Levels ≤ 5) (hp : ∀ res, 0 ≤ res → res ≤ p.Levels → 0 ≤ (m_params_Precinct p res).X ∧ 0 ≤ (m_params_Precinct p res).Y) :
    loop_R23_Packets_2 j h p t r (fuel_R23_Packets_2 s j 0 h p t r) s 0 (fun s _ => e s) = e ((rngI 0 (p.Levels + 1)).foldl (fun s res => IntKind.wrap .i64 (s + pkRes p r res)) s) := by
  refine loop_foldB (b := p.Levels + 1) (L := fun n res s => loop_R23_Packets_2 j h p t r n s res (fun s _ => e s)) (g := fun s res => IntKind.wrap .i64 (s + pkRes p r res)) (e := e) (fun i _ => 0 ≤ i) (fun n i s h0 => step_Pk_2 j h p t r s i _ _ h0 hl hp) (fun i s h0 _ => by omega) _ 0 s (Int.le_refl 0) ?_
  show _ ≤ Int.toNat (p.Levels - 0) + 2
  omega
theorem step_Pk_0 {R : Type} (h : SHeader) (p : SParams) (t : SRect) (s i : Int) (again kn : Int → Int → Option R) (h0 : 0 ≤ i) (hr : h.Components.length ≤ 1048576) (hl : p.Levels ≤ 5) (hp : ∀ res, 0 ≤ res → res ≤ p.Levels → 0 ≤ (m_params_Precinct p res).X ∧ 0 ≤ (m_params_Precinct p res).Y) :
    step_R23_Packets_0 h p t s i again kn = bif decide (i < (h.Components.length : Int)) then again ((fun s w => (rngI 0 (p.Levels + 1)).foldl (fun s res => IntKind.wrap .i64 (s + pkRes p (compRect t w) res)) s) s (h.Components.getD i.toNat [])) (i + 1) else kn s i := by
  unfold step_R23_Packets_0
  rw [R01_Reduce_eq]
  by_cases hi : i < (h.Components.length : Int)
  · simp only [decide_eq_true hi, cond_true, inR_of h0 hi]
    refine (loop_Pk_2 _ h p t _ s (fun z => again z (IntKind.wrap .i64 (i + 1))) hl hp).trans ?_
    rw [w64 (n := i + 1) (by omega) (by omega)]
    rfl
  · simp only [decide_eq_false hi, cond_false]
theorem Pk_spec (h : SHeader) (p : SParams) (t : SRect) (hr : h.Components.length ≤ 1048576) (hl : p.Levels ≤ 5) (hp : ∀ res, 0 ≤ res → res ≤ p.Levels → 0 ≤ (m_params_Precinct p res).X ∧ 0 ≤ (m_params_Precinct p res).Y) : spec_R23_Packets h p t some = some (V.int .i64 (m_R23_Packets h p t)) := by
  refine (loop_foldB (b := (h.Components.length : Int)) (L := fun n i s => loop_R23_Packets_0 h p t n s i (fun z _ => some (V.int .i64 (IntKind.wrap .i64 (z * p.Layers))))) (g := fun s i => (fun s w => (rngI 0 (p.Levels + 1)).foldl (fun s res => IntKind.wrap .i64 (s + pkRes p (compRect t w) res)) s) s (h.Components.getD i.toNat [])) (e := fun z => some (V.int .i64 (IntKind.wrap .i64 (z * p.Layers)))) (fun i _ => 0 ≤ i) (fun n i s h0 => step_Pk_0 h p t s i _ _ h0 hr hl hp) (fun i s h0 _ => by omega) _ 0 0 (Int.le_refl 0) (Nat.le_refl _)).trans ?_
  rw [rng_foldl (fun s w => (rngI 0 (p.Levels + 1)).foldl (fun s res => IntKind.wrap .i64 (s + pkRes p (compRect t w) res)) s)]
  rfl
theorem good_R23_Packets_of (h1 : G_R01_Reduce) (h2 : G_R06_Resolution) (h3 : G_R23_Precinct) (h4 : G_R23_Grid) : G_R23_Packets :=
  mk_R23_Packets (h_R01_Reduce := h1) (h_R06_Resolution := h2) (h_R23_Precinct := h3) (h_R23_Grid := h4) fun h p t hp _ => by
    unfold pre_R23_Packets at hp
    simp only [Bool.and_eq_true, decide_eq_true_eq] at hp
    refine Pk_spec h p t (Nat.le_of_ble_eq_true hp.1.1) hp.1.2 fun res h0 h1 => ?_
    have := List.all_eq_true.1 hp.2 res (mem_rngI.2 ⟨h0, by omega⟩)
    simpa using this
def blI (p : SParams) (r : SRect) (i : Int) : Int := m_R23_Grid (m_R06_Band r p.Levels i) (blX p i) (blY p i)
theorem step_Bl_2 {R : Type} (j : Int) (h : SHeader) (p : SParams) (t r : SRect) (s i : Int) (again kn : Int → Int → Option R) (h0 : 0 ≤ i) (hl0 : 0 ≤ p.Levels) (hl : p.Levels ≤ 5) (hp : ∀ i, 0 ≤ i → i ≤ 3 * p.Levels → 0 ≤ blX p i ∧ 0 ≤ blY p i) :
    step_R23_Blocks_2 j h p t r s i again kn = bif decide (i < 3 * p.Levels + 1) then again ((fun s i => (fun c => bif decide (c > s) then c else s) (blI p r i)) s i) (i + 1) else kn s i := by
  unfold step_R23_Blocks_2
  rw [R23_Precinct_eq, w64 (n := 3 * p.Levels) (by omega) (by omega)]
  by_cases hi : i ≤ 3 * p.Levels
  · have hi' : i < 3 * p.Levels + 1 := by omega
    obtain ⟨hx, hy⟩ := hp i h0 hi
    simp only [decide_eq_true hi, decide_eq_true hi', cond_true]
    rw [w64 (n := i + 2) (by omega) (by omega), tdiv3 (by omega), w64 (n := (i + 2) / 3) (by omega) (by omega), w64 (n := i + 1) (by omega) (by omega)]
    show (bif pre_R23_Grid (m_R06_Band r p.Levels i) (blX p i) (blY p i) then _ else none) = _
    rw [pre_Grid_of hx hy]
    rfl
  · have hi' : ¬ i < 3 * p.Levels + 1 := by omega
    simp only [decide_eq_false hi, decide_eq_false hi', cond_false]
theorem loop_Bl_2 {R : Type} (j : Int) (h : SHeader) (p : SParams) (t r : SRect) (s : Int) (e : Int → Option R) (hl0 : 0 ≤ p.Levels) (hl : p.Levels ≤ 5) (hp : ∀ i, 0 ≤ i → i ≤ 3 * p.Levels → 0 ≤ blX p i ∧ 0 ≤ blY p i) :
    loop_R23_Blocks_2 j h p t r (fuel_R23_Blocks_2 s j 0 h p t r) s 0 (fun s _ => e s) = e ((rngI 0 (3 * p.Levels + 1)).foldl (fun s i => (fun c => bif decide (c > s) then c else s) (blI p r i)) s) := by
  refine loop_foldB (b := 3 * p.Levels + 1) (L := fun n i s => loop_R23_Blocks_2 j h p t r n s i (fun s _ => e s)) (g := fun s i => (fun c => bif decide (c > s) then c else s) (blI p r i)) (e := e) (fun i _ => 0 ≤ i) (fun n i s h0 => step_Bl_2 j h p t r s i _ _ h0 hl0 hl hp) (fun i s h0 _ => by omega) _ 0 s (Int.le_refl 0) ?_
  show _ ≤ Int.toNat (IntKind.wrap .i64 (3 * p.Levels) - 0) + 2
  rw [w64 (n := 3 * p.Levels) (by omega) (by omega)]
  omega
theorem step_Bl_0 {R : Type} (h : SHeader) (p : SParams) (t : SRect) (s i : Int) (again kn : Int → Int → Option R) (h0 : 0 ≤ i) (hr : h.Components.length ≤ 1048576) (hl0 : 0 ≤ p.Levels) (hl : p.Levels ≤ 5) (hp : ∀ i, 0 ≤ i → i ≤ 3 * p.Levels → 0 ≤ blX p i ∧ 0 ≤ blY p i) :
    step_R23_Blocks_0 h p t s i again kn = bif decide (i < (h.Components.length : Int)) then again ((fun s w => (rngI 0 (3 * p.Levels + 1)).foldl (fun s i => (fun c => bif decide (c > s) then c else s) (blI p (compRect t w) i)) s) s (h.Components.getD i.toNat [])) (i + 1) else kn s i := by
  unfold step_R23_Blocks_0
  rw [R01_Reduce_eq]
  by_cases hi : i < (h.Components.length : Int)
  · simp only [decide_eq_true hi, cond_true, inR_of h0 hi]
    refine (loop_Bl_2 _ h p t _ s (fun z => again z (IntKind.wrap .i64 (i + 1))) hl0 hl hp).trans ?_
    rw [w64 (n := i + 1) (by omega) (by omega)]
    rfl
  · simp only [decide_eq_false hi, cond_false]
theorem Bl_spec (h : SHeader) (p : SParams) (t : SRect) (hr : h.Components.length ≤ 1048576) (hl0 : 0 ≤ p.Levels) (hl : p.Levels ≤ 5) (hp : ∀ i, 0 ≤ i → i ≤ 3 * p.Levels → 0 ≤ blX p i ∧ 0 ≤ blY p i) : spec_R23_Blocks h p t some = some (V.int .i64 (m_R23_Blocks h p t)) := by
  refine (loop_foldB (b := (h.Components.length : Int)) (L := fun n i s => loop_R23_Blocks_0 h p t n s i (fun z _ => some (V.int .i64 z))) (g := fun s i => (fun s w => (rngI 0 (3 * p.Levels + 1)).foldl (fun s i => (fun c => bif decide (c > s) then c else s) (blI p (compRect t w) i)) s) s (h.Components.getD i.toNat [])) (e := fun z => some (V.int .i64 z)) (fun i _ => 0 ≤ i) (fun n i s h0 => step_Bl_0 h p t s i _ _ h0 hr hl0 hl hp) (fun i s h0 _ => by omega) _ 0 0 (Int.le_refl 0) (Nat.le_refl _)).trans ?_
  rw [rng_foldl (fun s w => (rngI 0 (3 * p.Levels + 1)).foldl (fun s i => (fun c => bif decide (c > s) then c else s) (blI p (compRect t w) i)) s)]
  rfl
theorem good_R23_Blocks_of (h1 : G_R01_Reduce) (h3 : G_R23_Precinct) (h4 : G_R23_Grid) (h2 : G_R06_Band) : G_R23_Blocks :=
  mk_R23_Blocks (h_R01_Reduce := h1) (h_R23_Precinct := h3) (h_R23_Grid := h4) (h_R06_Band := h2) fun h p t hp _ => by
    unfold pre_R23_Blocks at hp
    simp only [Bool.and_eq_true, decide_eq_true_eq] at hp
    refine Bl_spec h p t (Nat.le_of_ble_eq_true hp.1.1.1) hp.1.1.2 hp.1.2 fun i h0 h1 => ?_
    have := List.all_eq_true.1 hp.2 i (mem_rngI.2 ⟨h0, by omega⟩)
    simpa using this
end Go.Vm
set_option linter.unusedVariables false
set_option linter.unusedSimpArgs false
set_option maxRecDepth 100000
noncomputable section
namespace Go.Vm
open Go.Proofs
theorem head_ok {h : SHeader} (hz : m_params_Header h = 0) : headOK h = true ∧ h.Components.all (compOK h.Area) = true ∧ ¬ nTiles h > 1024 ∧ h.Components.all (compFits h.Area) = true := by
  unfold m_params_Header at hz
  cases ha : headOK h with
  | false => rw [ha] at hz; cases hz
  | true =>
    cases hb : h.Components.all (compOK h.Area) with
    | false => rw [ha, hb] at hz; cases hz
    | true =>
      by_cases hc : nTiles h > 1024
      · rw [ha, hb, decide_eq_true hc] at hz; cases hz
      · cases hd : h.Components.all (compFits h.Area) with
        | false => rw [ha, hb, decide_eq_false hc, hd] at hz; cases hz
        | true => exact ⟨rfl, rfl, hc, rfl⟩
theorem headOK_iff {h : SHeader} (ha : headOK h = true) : m_rect_Valid h.Area = true ∧ m_rect_Empty h.Area = false ∧ (1 ≤ h.TileW ∧ h.TileW ≤ 4096) ∧ (1 ≤ h.TileH ∧ h.TileH ≤ 4096) ∧ 1 ≤ h.Components.length ∧ h.Components.length ≤ 4 := by
  unfold headOK at ha
  simp only [Bool.and_eq_true, Bool.not_eq_true'] at ha
  obtain ⟨⟨⟨⟨h1, h2⟩, h3⟩, h4⟩, h5⟩ := ha
  have h5' := inB_iff.1 h5
  exact ⟨h1, h2, inB_iff.1 h3, inB_iff.1 h4, by omega, by omega⟩
theorem head_comps {h : SHeader} (hz : m_params_Header h = 0) : 1 ≤ h.Components.length ∧ h.Components.length ≤ 4 := (headOK_iff (head_ok hz).1).2.2.2.2
theorem all_cells (l : List SRect) (f : SRect → Bool) : (l.map SRect.row).all (fun w => f (SRect.of w)) = l.all f := by
  rw [List.all_map]
  rfl
theorem cellsL_length (r : SRect) (w h : Int) : (cellsL r w h).length ≤ 16777216 := by
  unfold cellsL
  cases hc : cellsOK r w h with
  | false => simp
  | true =>
    unfold cellsOK at hc
    simp only [Bool.and_eq_true, Bool.not_eq_true', decide_eq_false_iff_not] at hc
    obtain ⟨⟨⟨⟨h1, h2⟩, h3⟩, h4⟩, h5⟩ := hc
    obtain ⟨b1, b2, b3, b4⟩ := cells_guard h1 h3 h4
    simp only [cond_true]
    rw [List.length_flatMap]
    have : ((rngI (m_rect_FloorDiv r.Y0 h) (m_rect_CeilDiv r.Y1 h)).map fun j => ((rngI (m_rect_FloorDiv r.X0 w) (m_rect_CeilDiv r.X1 w)).map fun i => cellOf r w h j i).length) = (rngI (m_rect_FloorDiv r.Y0 h) (m_rect_CeilDiv r.Y1 h)).map fun _ => (m_rect_CeilDiv r.X1 w - m_rect_FloorDiv r.X0 w).toNat := by
      apply List.map_congr_left
      intro j _
      rw [List.length_map, length_rngI]
    rw [this, List.map_const', List.sum_replicate_nat, length_rngI]
    exact mul_small (by omega) (by omega)
theorem Cells_length (r : SRect) (w h : Int) : (m_rect_Cells r w h).length ≤ 16777216 := by
  unfold m_rect_Cells
  rw [List.length_map]
  exact cellsL_length r w h
end Go.Vm
