import Derived.Test.YtoldachfmeghkaaGreatWP8
set_option linter.unusedVariables false
set_option linter.unusedSimpArgs false
set_option maxRecDepth 100000
noncomputable section
namespace Go.Vm
open Go.Proofs
theorem exists_iff {h : SHeader} {p : SParams} {t c : Int} : m_layout_exists h p t c = true ↔ m_params_Check h p = 0 ∧ (0 ≤ t ∧ t < ((m_layout_Tiles h).length : Int)) ∧ 0 ≤ c ∧ c < (h.Components.length : Int) := by
  have e : ∀ (a b : Bool), (bif a then b else false) = (a && b) := by intro a b; cases a <;> rfl
  unfold m_layout_exists
  simp only [e, b_true, Bool.and_eq_true, decide_eq_true_eq, beq_iff_eq]
  constructor
  · rintro ⟨⟨h1, h2⟩, ⟨h3, h4⟩, h5⟩; exact ⟨h1, ⟨h2, h3⟩, h4, h5⟩
  · rintro ⟨h1, ⟨h2, h3⟩, h4, h5⟩; exact ⟨⟨h1, h2⟩, ⟨h3, h4⟩, h5⟩
theorem R24_Tiles_eq : m_R24_Tiles = m_layout_Tiles := rfl
theorem R24_ValidTile_eq : m_R24_ValidTile = m_layout_exists := rfl
theorem check_ok {h : SHeader} {p : SParams} (hz : m_params_Check h p = 0) : m_params_Header h = 0 ∧ kindB p = true ∧ numB p = true ∧ colorB h p = true ∧ (cellsL h.Area h.TileW h.TileH).all (fun t => m_params_tileFits h p t) = true := by
  unfold m_params_Check at hz
  by_cases h0 : m_params_Header h = 0
  · rw [show (m_params_Header h != 0) = false by rw [h0]; rfl] at hz
    cases hk : kindB p with
    | false => rw [hk] at hz; cases hz
    | true =>
      cases hn : m_params_numbers h p with
      | false => rw [hk, hn] at hz; cases hz
      | true =>
        cases hc : (cellsL h.Area h.TileW h.TileH).all (fun t => m_params_tileFits h p t) with
        | false => rw [hk, hn, hc] at hz; cases hz
        | true =>
          unfold m_params_numbers at hn
          rw [Bool.and_eq_true] at hn
          exact ⟨h0, rfl, hn.1, hn.2, rfl⟩
  · rw [show (m_params_Header h != 0) = true from bne_iff_ne.2 h0] at hz
    exact absurd hz h0
theorem check_comps {h : SHeader} {p : SParams} (hc : m_params_Check h p = 0) : h.Components.length ≤ 4 := (head_comps (check_ok hc).1).2
theorem R24_Packets_pre (h : SHeader) (p : SParams) (t : Int) : pre_R24_Packets h p t = true := by
  unfold pre_R24_Packets
  rw [R24_ValidTile_eq, R24_Tiles_eq]
  cases he : m_layout_exists h p t 0 with
  | false => rfl
  | true =>
    obtain ⟨hc, ht, _⟩ := exists_iff.1 he
    obtain ⟨_, _, hn, _, _⟩ := check_ok hc
    have hL := (numB_iff hn).1
    have hp : pre_R23_Packets h p (SRect.of (List.getD (m_layout_Tiles h) t.toNat [])) = true := by
      unfold pre_R23_Packets
      have := check_comps hc
      rw [Nat.ble_eq_true_of_le (by omega), decide_eq_true hL.2, Bool.and_self, Bool.true_and, List.all_eq_true]
      intro res hr
      have hrb := mem_rngI.1 hr
      have hb := Precinct_bd hn hrb.1 (by omega)
      rw [decide_eq_true (show 0 ≤ (m_params_Precinct p res).X by omega), decide_eq_true (show 0 ≤ (m_params_Precinct p res).Y by omega)]
      rfl
    simp only [inR_of ht.1 ht.2, hp, Bool.not_true, cond_false, cond_true]
theorem Few_loop {R : Type} (n : Int) (h : SHeader) (p : SParams) (hn : n ≤ 16) (e : Option R) (kr : V → Option R) (m : Nat) (hm : (n - 0).toNat + 1 ≤ m) :
    loop_R35_Few_0 n h p m 0 (fun _ => e) kr = bif (rngI 0 n).all (fun t => !decide (m_R24_Packets h p t > 400)) then e else kr (V.bool false) := by
  refine loop_allB (a := 0) (b := n) (L := fun m i => loop_R35_Few_0 n h p m i (fun _ => e) kr) (ok := fun t => !decide (m_R24_Packets h p t > 400)) (e := e) (x := kr (V.bool false)) (fun m i h0 => ?_) m hm
  show step_R35_Few_0 n h p i _ _ kr = _
  unfold step_R35_Few_0
  by_cases hi : i < n
  · simp only [decide_eq_true hi, cond_true, R24_Packets_pre]
    rw [w64 (n := i + 1) (by omega) (by omega)]
    cases decide (m_R24_Packets h p i > 400) <;> rfl
  · simp only [decide_eq_false hi, cond_false]
theorem Few_spec (h : SHeader) (p : SParams) : spec_R35_Few h p some = some (V.bool (m_R35_Few h p)) := by
  unfold spec_R35_Few m_R35_Few m_R23_Header m_R23_Check
  rw [R24_Tiles_eq]
  simp only []
  cases h1 : decide ((h.Components.length : Int) > 10) with
  | true => rfl
  | false =>
    cases h2 : decide ((p.Precincts.length : Int) > 10) with
    | true => rfl
    | false =>
      cases h3 : decide ((p.Steps.length : Int) > 40) with
      | true => rfl
      | false =>
        cases h4 : (m_params_Header h != 0) with
        | true => rfl
        | false =>
          cases h5 : decide (IntKind.wrap .i64 (h.Area.X1 - h.Area.X0) > 40) with
          | true => rfl
          | false =>
            cases h6 : decide (IntKind.wrap .i64 (h.Area.Y1 - h.Area.Y0) > 40) with
            | true => rfl
            | false =>
              cases h7 : decide (((m_layout_Tiles h).length : Int) > 16) with
              | true => rfl
              | false =>
                cases h8 : (m_params_Check h p != 0) with
                | true => rfl
                | false =>
                  have hn : ((m_layout_Tiles h).length : Int) ≤ 16 := by
                    have := of_decide_eq_false h7
                    omega
                  refine (Few_loop ((m_layout_Tiles h).length : Int) h p hn (some (V.bool true)) some _ (Nat.le_refl _)).trans ?_
                  show _ = some (V.bool ((rngI 0 ((m_layout_Tiles h).length : Int)).all fun t => !decide (m_R24_Packets h p t > 400)))
                  cases (rngI 0 ((m_layout_Tiles h).length : Int)).all (fun t => !decide (m_R24_Packets h p t > 400)) <;> rfl
theorem good_R35_Few_of (h1 : G_R23_Header) (h2 : G_R24_Tiles) (h3 : G_R23_Check) (h4 : G_R24_Packets) : G_R35_Few := by
  refine mk_R35_Few ?_ ?_ ?_ ?_ (fun h p _ => Few_spec h p) <;> assumption
end Go.Vm
