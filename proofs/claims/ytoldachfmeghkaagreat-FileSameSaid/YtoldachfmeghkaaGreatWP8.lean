import Derived.Test.YtoldachfmeghkaaGreatWP7
set_option linter.unusedVariables false
set_option linter.unusedSimpArgs false
set_option maxRecDepth 100000
noncomputable section
namespace Go.Vm
open Go.Proofs
theorem kinds_eq (p : SParams) : m_R23_kinds p = kindB p := by
  have e : ∀ (a b : Bool), (bif a then b else false) = (a && b) := by intro a b; cases a <;> rfl
  unfold m_R23_kinds kindB
  rw [Bool.eq_iff_iff]
  simp only [e, Bool.and_eq_true, decide_eq_true_eq, inB_iff]
  omega
theorem pre_Pk {h : SHeader} {p : SParams} {t : SRect} (hl : h.Components.length ≤ 4) (hn : numB p = true) : pre_R23_Packets h p t = true := by
  have hL := (numB_iff hn).1
  unfold pre_R23_Packets
  rw [decide_eq_true hL.2, Nat.ble_eq_true_of_le (show h.Components.length ≤ 1048576 by omega)]
  simp only [Bool.true_and, List.all_eq_true, Bool.and_eq_true, decide_eq_true_eq]
  intro res hres
  obtain ⟨h0, h1⟩ := mem_rngI.1 hres
  have := Precinct_bd hn h0 (by omega : res ≤ p.Levels)
  omega
theorem pre_Bl {h : SHeader} {p : SParams} {t : SRect} (hl : h.Components.length ≤ 4) (hn : numB p = true) : pre_R23_Blocks h p t = true := by
  obtain ⟨hL, hX, hY, _, _⟩ := numB_iff hn
  unfold pre_R23_Blocks
  rw [decide_eq_true hL.2, decide_eq_true hL.1, Nat.ble_eq_true_of_le (show h.Components.length ≤ 1048576 by omega)]
  simp only [Bool.true_and, List.all_eq_true, Bool.and_eq_true, decide_eq_true_eq]
  intro i hi
  obtain ⟨h0, h1⟩ := mem_rngI.1 hi
  have hb := Precinct_bd hn (show 0 ≤ (i + 2) / 3 by omega) (by omega)
  obtain ⟨e1, e2⟩ := blX_eq hn (i := i) rfl (by omega) (by omega)
  rw [e1, e2]
  omega
theorem R23_step_Ck {R : Type} (rows : Rows) (h : SHeader) (p : SParams) (i : Int) (again kn : Int → Option R) (kr : V → Option R) (h0 : 0 ≤ i) (hr : rows.length ≤ 1099511627776) (hl : h.Components.length ≤ 4) (hn : numB p = true) :
    step_R23_Check_0 rows h p i again kn kr = bif decide (i < (rows.length : Int)) then (bif (fun w => m_params_tileFits h p (SRect.of w)) (rows.getD i.toNat []) then again (i + 1) else kr (V.int .i64 5)) else kn i := by
  unfold step_R23_Check_0
  by_cases hi : i < (rows.length : Int)
  · simp only [decide_eq_true hi, cond_true, inR_of h0 hi, pre_Pk hl hn, pre_Bl hl hn, Bool.true_or]
    rw [w64 (n := i + 1) (by omega) (by omega), tileFits_ref hn]
    cases decide (m_R23_Packets h p (SRect.of (rows.getD i.toNat [])) > 65536) <;> cases decide (m_R23_Blocks h p (SRect.of (rows.getD i.toNat [])) > 65536) <;> rfl
  · simp only [decide_eq_false hi, cond_false]
theorem R23_loop_Ck {R : Type} (rows : Rows) (h : SHeader) (p : SParams) (e : Option R) (kr : V → Option R) (hr : rows.length ≤ 1099511627776) (hl : h.Components.length ≤ 4) (hn : numB p = true) :
    loop_R23_Check_0 rows h p (fuel_R23_Check_0 rows 0 h p) 0 (fun _ => e) kr = bif rows.all (fun w => m_params_tileFits h p (SRect.of w)) then e else kr (V.int .i64 5) := by
  refine (loop_allB (a := 0) (b := (rows.length : Int)) (L := fun n i => loop_R23_Check_0 rows h p n i (fun _ => e) kr) (ok := fun i => (fun w => m_params_tileFits h p (SRect.of w)) (rows.getD i.toNat [])) (e := e) (x := kr (V.int .i64 5)) (fun n i h0 => R23_step_Ck rows h p i _ _ kr h0 hr hl hn) _ (Nat.le_refl _)).trans ?_
  rw [rng_all (fun w => m_params_tileFits h p (SRect.of w))]
theorem R23_Check_spec (h : SHeader) (p : SParams) : spec_R23_Check h p some = some (V.int .i64 (m_params_Check h p)) := by
  unfold spec_R23_Check m_params_Check
  rw [kinds_eq]
  show (bif m_params_Header h != 0 then _ else _) = _
  by_cases hz : m_params_Header h = 0
  · have e : (m_params_Header h != 0) = false := by rw [hz]; rfl
    rw [e]
    simp only [cond_false]
    cases kindB p with
    | false => rfl
    | true =>
      show (bif !true then _ else (bif !(numB p) then _ else _)) = _
      unfold m_params_numbers
      cases hn : numB p with
      | false => rfl
      | true =>
        have hl := head_comps hz
        have hcl : (m_rect_Cells h.Area h.TileW h.TileH).length ≤ 1099511627776 := by have := Cells_length h.Area h.TileW h.TileH; omega
        have key := R23_loop_Ck (R := V) (m_rect_Cells h.Area h.TileW h.TileH) h p (some (V.int .i64 0)) some hcl hl.2 hn
        have kc : (m_rect_Cells h.Area h.TileW h.TileH).all (fun w => m_params_tileFits h p (SRect.of w)) = (cellsL h.Area h.TileW h.TileH).all (fun t => m_params_tileFits h p t) := by
          unfold m_rect_Cells
          rw [all_cells]
        rw [kc] at key
        unfold m_R01_Cells colorB compEq
        simp only [Bool.not_true, cond_false, Bool.true_and]
        by_cases hc : p.Color = 0
        · have c1 : (p.Color != 0) = false := by rw [hc]; rfl
          have c2 : (p.Color == 0) = true := by rw [hc]; rfl
          rw [c1, c2]
          simp only [cond_false, Bool.true_or, Bool.not_true]
          refine key.trans ?_
          cases (cellsL h.Area h.TileW h.TileH).all fun t => m_params_tileFits h p t <;> rfl
        · have c1 : (p.Color != 0) = true := bne_iff_ne.2 hc
          have c2 : (p.Color == 0) = false := beq_eq_false_iff_ne.2 hc
          rw [c1, c2]
          simp only [cond_true, Bool.false_or]
          by_cases h3 : (h.Components.length : Int) < 3
          · have h3' : ¬ (h.Components.length : Int) ≥ 3 := by omega
            rw [decide_eq_true h3, decide_eq_false h3']
            have e1 : ∀ x : Bool, (x || !(true == false)) = true := by intro x; cases x <;> rfl
            simp only [e1, cond_true, Bool.false_and, Bool.not_false]
          · have h3' : (h.Components.length : Int) ≥ 3 := by omega
            have i0 : inR 0 h.Components.length = true := inR_of (by omega) (by omega)
            have i1 : inR 1 h.Components.length = true := inR_of (by omega) (by omega)
            have i2 : inR 2 h.Components.length = true := inR_of (by omega) (by omega)
            rw [decide_eq_false h3, decide_eq_true h3']
            simp only [i0, i1, i2, Bool.true_or, cond_true, cond_false, Bool.true_and]
            rw [key]
            generalize (((SComponent.of (h.Components.getD 0 [])).Depth == (SComponent.of (h.Components.getD 1 [])).Depth) && (((SComponent.of (h.Components.getD 0 [])).Signed == (SComponent.of (h.Components.getD 1 [])).Signed) && (((SComponent.of (h.Components.getD 0 [])).DX == (SComponent.of (h.Components.getD 1 [])).DX) && (((SComponent.of (h.Components.getD 0 [])).DY == (SComponent.of (h.Components.getD 1 [])).DY) && true)))) = x
            generalize (((SComponent.of (h.Components.getD 0 [])).Depth == (SComponent.of (h.Components.getD 2 [])).Depth) && (((SComponent.of (h.Components.getD 0 [])).Signed == (SComponent.of (h.Components.getD 2 [])).Signed) && (((SComponent.of (h.Components.getD 0 [])).DX == (SComponent.of (h.Components.getD 2 [])).DX) && (((SComponent.of (h.Components.getD 0 [])).DY == (SComponent.of (h.Components.getD 2 [])).DY) && true)))) = y
            generalize ((cellsL h.Area h.TileW h.TileH).all fun t => m_params_tileFits h p t) = z
            cases x <;> cases y <;> cases z <;> rfl
  · have e : (m_params_Header h != 0) = true := bne_iff_ne.2 hz
    rw [e]
    rfl
theorem good_R23_Check_of (h1 : G_R23_Header) (h2 : G_R01_Cells) (h3 : G_R23_kinds) (h4 : G_R23_numbers) (h5 : G_R23_Packets) (h6 : G_R23_Blocks) : G_R23_Check := by
  refine mk_R23_Check ?_ ?_ ?_ ?_ ?_ ?_ (fun h p _ => R23_Check_spec h p) <;> assumption
end Go.Vm
