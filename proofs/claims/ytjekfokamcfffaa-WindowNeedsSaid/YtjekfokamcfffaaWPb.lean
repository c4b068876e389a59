import Derived.Test.YtjekfokamcfffaaWPa
set_option linter.unusedVariables false
set_option linter.unusedSimpArgs false
set_option maxRecDepth 100000
noncomputable section
namespace Go.Vm
open Go.Proofs
variable {R : Type}
theorem find_blocks (h : SHeader) {p : SParams} (tile comp k : Int) (hn : numB p = true) {res band : Int} (h0 : 0 <= res) (h1 : res <= p.Levels) (hb0 : 0 <= band) (hb1 : band <= 3 * p.Levels) (hb : (band + 2) / 3 = res) :
    (m_F7 h p tile comp band k).blocks = (m_G5 (m_B2 h tile comp) p res band k).2.2 := by
  obtain ⟨hL, _, _, _, _⟩ := numB_iff hn
  have hc : band < m_D2 p.Levels := by rw [pyramid_Count_eq, if_pos hL]; omega
  have hpx := Precinct_bd hn h0 h1
  unfold m_F7 m_G5
  rw [R06_Place_eq, R23_Precinct_eq]
  show _ = (bif !(m_G7 (m_C1 (m_B2 h tile comp) p.Levels res) (m_J4 (m_B2 h tile comp) p.Levels band) (m_D0 band p.Levels).2.1 (m_B4 p res).X (m_B4 p res).Y k).2 then ((0 : Int), (0 : Int), ([] : Rows)) else _).2.2
  rw [R22_InBand_eq, R06_Band_eq]
  by_cases hz : band = 0
  · have hr : res = 0 := by omega
    subst hz; subst hr
    have hpl : m_D0 0 p.Levels = (p.Levels, 0, true) := by rw [pyramid_Place_eq, if_pos ⟨by omega, hc⟩, if_pos rfl]
    rw [hpl]
    have e1 : IntKind.wrap .i64 ((m_B4 p 0).X - 0) = (m_B4 p 0).X := by rw [Int.sub_zero]; exact w64 (by omega) (by omega)
    have e2 : IntKind.wrap .i64 ((m_B4 p 0).Y - 0) = (m_B4 p 0).Y := by rw [Int.sub_zero]; exact w64 (by omega) (by omega)
    simp only [Bool.not_true, cond_false, R22_InBand_eq, R06_Band_eq, show decide ((0 : Int) > 0) = false from rfl, show decide ((1 : Int) < 0) = false from rfl, e1, e2]
    unfold m_C1 m_H4
    cases (m_B1 (m_A6 (m_B2 h tile comp) p.Levels 0) (m_E6 (m_B2 h tile comp) p.Levels 0) 0 (m_B4 p 0).X (m_B4 p 0).Y k).2 <;> rfl
  · have hr : 0 < res := by omega
    have hpl : m_D0 band p.Levels = (p.Levels - res + 1, band - 3 * res + 3, true) := by rw [pyramid_Place_eq, if_pos ⟨hb0, hc⟩, if_neg hz, hb]
    rw [hpl]
    have e0 : IntKind.wrap .i64 (IntKind.wrap .i64 (p.Levels - (p.Levels - res + 1)) + 1) = res := by rw [w64 (n := p.Levels - (p.Levels - res + 1)) (by omega) (by omega), w64 (by omega) (by omega)]; omega
    have e1 : (bif decide (1 < res) then (1 : Int) else res) = 1 := by rw [one_res (by omega)]; omega
    have d1 : band > 0 := by omega
    simp only [Bool.not_true, cond_false, cond_true, R22_InBand_eq, R06_Band_eq, e0, e1, decide_eq_true d1, decide_eq_true (show res > 0 from hr)]
    unfold m_C1 m_H4
    cases (m_B1 (m_A6 (m_B2 h tile comp) p.Levels res) (m_E6 (m_B2 h tile comp) p.Levels band) (band - 3 * res + 3) (m_B4 p res).X (m_B4 p res).Y k).2 <;> rfl
theorem Blocks_length (a : SRect) (x y : Int) : (m_A9 a x y).2.2.length <= 65536 := by
  have bd := grid_bd a x y 6 (by omega)
  unfold m_A9
  simp only [List.length_flatMap, List.length_map, length_rngI, List.map_const', List.sum_replicate_nat]
  have e : ((m_C2 a x y 6).2.2.2 - 0).toNat * ((m_C2 a x y 6).2.2.1 - 0).toNat = ((m_C2 a x y 6).2.2.1 * (m_C2 a x y 6).2.2.2).toNat := by
    rw [Int.sub_zero, Int.sub_zero, Nat.mul_comm, Int.toNat_mul bd.2.2.1.1 bd.2.2.2.1.1]
  rw [e]
  omega
theorem find_length (h : SHeader) (p : SParams) (tile comp band k : Int) : (m_F7 h p tile comp band k).blocks.length <= 65536 := by
  have hc : ∀ (b : Bool) (x y : Slayout_part), x.blocks.length <= 65536 -> y.blocks.length <= 65536 -> (bif b then x else y).blocks.length <= 65536 := by
    intro b x y hx hy
    cases b
    · exact hy
    · exact hx
  have hz : (Slayout_part.mk 0 0 []).blocks.length <= 65536 := Nat.zero_le _
  unfold m_F7
  repeat' (first | exact hz | exact Blocks_length _ _ _ | refine hc _ _ _ ?_ ?_)
theorem precinct_1_loop (band : Int) (id : SPacketID) (l : Rows) (hl : l.length <= 65536) (e : Rows -> Option R) :
    loop_A8_0 band id l (l.length : Int) (fuel_A8_0 band id l (l.length : Int) 0 []) 0 [] (fun _ z => e z) = e (idRows id.Comp id.Res band id.Precinct l) := by
  refine (loop_foldB (b := (l.length : Int)) (L := fun n i s => loop_A8_0 band id l (l.length : Int) n i s (fun _ z => e z)) (g := fun s i => s ++ [SBlockID.row ⟨id.Comp, id.Res, band, id.Precinct, i, SRect.of (l.getD i.toNat [])⟩]) (e := e) (fun i t => 0 <= i /\ t.length <= i.toNat) ?_ ?_ _ 0 [] ⟨Int.le_refl 0, by simp⟩ (Nat.le_refl _)).trans ?_
  · intro n i t ⟨h0, hb⟩
    show step_A8_0 band id l (l.length : Int) i t _ _ = _
    unfold step_A8_0
    by_cases hi : i < (l.length : Int)
    · have hroom : roomOK (t.length + 1) 72 = true := room_of (by omega)
      simp only [decide_eq_true hi, cond_true, inR_of h0 hi, hroom]
      rw [w64 (n := i + 1) (by omega) (by omega)]
      rfl
    · simp only [decide_eq_false hi, cond_false]
  · intro i t ⟨h0, hb⟩ hi
    refine ⟨by omega, ?_⟩
    rw [List.length_append]
    show t.length + 1 <= _
    omega
  · rw [foldl_snoc, List.nil_append]
    rfl
theorem good_A8_of (h1 : G_F7) : G_A8 := mk_A8 h1 fun band h p tile id _ =>
  precinct_1_loop band id _ (find_length h p tile id.Comp band id.Precinct) (fun z => some (V.data SBlockID.sh z))
theorem idRows_length (c r b p : Int) (l : Rows) : (idRows c r b p l).length = l.length := by
  unfold idRows
  rw [List.length_map, length_rngI]
  omega
theorem precinct_loop (l : Rows) (h : SHeader) (p : SParams) (tile : Int) (id : SPacketID) (hl : l.length <= 65536) (e : Rows -> Option R) :
    loop_B7_0 l (l.length : Int) h p tile id (fuel_B7_0 l (l.length : Int) 0 h p tile id []) 0 [] (fun _ z => e z) = e (l.map fun w => [V.data SBlockID.sh (m_A8 (V.toInt (List.getD w 0 V.undef)) h p tile id)]) := by
  refine (loop_foldB (b := (l.length : Int)) (L := fun n i s => loop_B7_0 l (l.length : Int) h p tile id n i s (fun _ z => e z)) (g := fun s i => s ++ [(fun w => [V.data SBlockID.sh (m_A8 (V.toInt (List.getD w 0 V.undef)) h p tile id)]) (l.getD i.toNat [])]) (e := e) (fun i t => 0 <= i /\ t.length <= i.toNat) ?_ ?_ _ 0 [] ⟨Int.le_refl 0, by simp⟩ (Nat.le_refl _)).trans ?_
  · intro n i t ⟨h0, hb⟩
    show step_B7_0 l (l.length : Int) h p tile id i t _ _ = _
    unfold step_B7_0
    by_cases hi : i < (l.length : Int)
    · have hroom : roomOK (t.length + 1) 24 = true := room_of (by omega)
      simp only [decide_eq_true hi, cond_true, inR_of h0 hi, hroom]
      rw [w64 (n := i + 1) (by omega) (by omega)]
    · simp only [decide_eq_false hi, cond_false]
  · intro i t ⟨h0, hb⟩ hi
    refine ⟨by omega, ?_⟩
    rw [List.length_append]
    show t.length + 1 <= _
    omega
  · rw [foldl_snoc, List.nil_append, rng_rows (fun w => [V.data SBlockID.sh (m_A8 (V.toInt (List.getD w 0 V.undef)) h p tile id)])]
theorem join_lists (l : Rows) (f : List V -> Rows) : m_F9 (l.map fun w => [V.data SBlockID.sh (f w)]) = l.flatMap f := by
  unfold m_F9
  rw [List.flatMap_map]
  rfl
theorem precinct_1_length (band : Int) (h : SHeader) (p : SParams) (tile : Int) (id : SPacketID) : (m_A8 band h p tile id).length <= 65536 := by
  unfold m_A8
  rw [idRows_length]
  exact find_length h p tile id.Comp band id.Precinct
theorem flatMap_le {α β : Type} (f : α -> List β) (n : Nat) : ∀ (l : List α), (∀ x ∈ l, (f x).length <= n) -> (l.flatMap f).length <= l.length * n
  | [], _ => by simp
  | x :: l, h => by
    rw [List.flatMap_cons, List.length_append, List.length_cons, Nat.add_mul, Nat.one_mul]
    have := flatMap_le f n l fun y hy => h y (List.mem_cons_of_mem _ hy)
    have := h x (List.mem_cons_self ..)
    omega
theorem precinct_length (h : SHeader) (p : SParams) (tile : Int) (id : SPacketID) : (m_B7 h p tile id).length <= 196608 := by
  unfold m_B7
  have := flatMap_le (fun w => m_A8 (V.toInt (List.getD w 0 V.undef)) h p tile id) 65536 (m_B6 p.Levels id.Res) fun w _ => precinct_1_length _ h p tile id
  have h3 := Indices_length p.Levels id.Res
  have := Nat.mul_le_mul_right 65536 h3
  omega
theorem precinct_spec (h : SHeader) (p : SParams) (tile : Int) (id : SPacketID) : spec_B7 h p tile id some = some (V.data SBlockID.sh (m_B7 h p tile id)) := by
  have h3 := Indices_length p.Levels id.Res
  refine (precinct_loop (m_B6 p.Levels id.Res) h p tile id (by omega) (fun z => bif pre_F9 z then some (V.data SBlockID.sh (m_F9 z)) else none)).trans ?_
  have hj : m_F9 ((m_B6 p.Levels id.Res).map fun w => [V.data SBlockID.sh (m_A8 (V.toInt (List.getD w 0 V.undef)) h p tile id)]) = m_B7 h p tile id := join_lists _ _
  have hp : pre_F9 ((m_B6 p.Levels id.Res).map fun w => [V.data SBlockID.sh (m_A8 (V.toInt (List.getD w 0 V.undef)) h p tile id)]) = true := by
    unfold pre_F9
    rw [hj, List.length_map]
    have := precinct_length h p tile id
    rw [Nat.ble_eq_true_of_le (by omega), Nat.ble_eq_true_of_le (by omega)]
    rfl
  simp only [hp, cond_true]
  rw [hj]
theorem good_B7_of (h1 : G_F9) (h2 : G_A8) (h3 : G_B6) : G_B7 := by
  refine mk_B7 ?_ ?_ ?_ (fun h p tile id _ => precinct_spec h p tile id) <;> assumption
theorem R24_blocks_length (r : SRect) (p : SParams) (res band k : Int) : (m_G5 r p res band k).2.2.length <= 65536 := by
  have hc : ∀ (b : Bool) (x y : Int × Int × Rows), x.2.2.length <= 65536 -> y.2.2.length <= 65536 -> (bif b then x else y).2.2.length <= 65536 := by
    intro b x y hx hy
    cases b
    · exact hy
    · exact hx
  have hz : ((0, 0, []) : Int × Int × Rows).2.2.length <= 65536 := Nat.zero_le _
  unfold m_G5
  repeat' (first | exact hz | exact Blocks_length _ _ _ | refine hc _ _ _ ?_ ?_)
theorem inPrecinct_2 (comp res k : Int) (bands : Rows) (j : Int) (l : Rows) (r : SRect) (p : SParams) (hj : 0 <= j /\ j < (bands.length : Int)) (hl : l.length <= 65536) (s : Rows) (hs : s.length <= 1099510000000) (e : Rows -> Option R) :
    loop_C7_2 comp res k bands j l r p (fuel_C7_2 comp res k bands j l 0 r p s) 0 s (fun _ z => e z) = e (s ++ idRows comp res (V.toInt (List.getD (bands.getD j.toNat []) 0 V.undef)) k l) := by
  refine (loop_foldB (b := (l.length : Int)) (L := fun n i s => loop_C7_2 comp res k bands j l r p n i s (fun _ z => e z)) (g := fun s i => s ++ [SBlockID.row ⟨comp, res, V.toInt (List.getD (bands.getD j.toNat []) 0 V.undef), k, i, SRect.of (l.getD i.toNat [])⟩]) (e := e) (fun i t => 0 <= i /\ t.length <= s.length + i.toNat) ?_ ?_ _ 0 s ⟨Int.le_refl 0, by omega⟩ (Nat.le_refl _)).trans ?_
  · intro n i t ⟨h0, hb⟩
    show step_C7_2 comp res k bands j l r p i t _ _ = _
    unfold step_C7_2
    by_cases hi : i < (l.length : Int)
    · have hroom : roomOK (t.length + 1) 72 = true := room_of (by omega)
      simp only [decide_eq_true hi, cond_true, inR_of h0 hi, inR_of hj.1 hj.2, hroom]
      rw [w64 (n := i + 1) (by omega) (by omega)]
      rfl
    · simp only [decide_eq_false hi, cond_false]
  · intro i t ⟨h0, hb⟩ hi
    refine ⟨by omega, ?_⟩
    rw [List.length_append]
    show t.length + 1 <= _
    omega
  · rw [foldl_snoc]
    rfl
def refRows (r : SRect) (p : SParams) (comp res k : Int) (w : List V) : Rows := idRows comp res (V.toInt (List.getD w 0 V.undef)) k (m_G5 r p res (V.toInt (List.getD w 0 V.undef)) k).2.2
theorem refRows_length (r : SRect) (p : SParams) (comp res k : Int) (w : List V) : (refRows r p comp res k w).length <= 65536 := by
  unfold refRows
  rw [idRows_length]
  exact R24_blocks_length _ _ _ _ _
theorem inPrecinct_0 (comp res k : Int) (bands : Rows) (r : SRect) (p : SParams) (hl : bands.length <= 4096) (e : Rows -> Option R) :
    loop_C7_0 comp res k bands r p (fuel_C7_0 comp res k bands 0 r p []) 0 [] (fun _ z => e z) = e (bands.flatMap (refRows r p comp res k)) := by
  refine (loop_foldB (b := (bands.length : Int)) (L := fun n i s => loop_C7_0 comp res k bands r p n i s (fun _ z => e z)) (g := fun s i => (fun s w => s ++ refRows r p comp res k w) s (bands.getD i.toNat [])) (e := e) (fun i t => 0 <= i /\ (i <= 4096 -> t.length <= i.toNat * 65536)) ?_ ?_ _ 0 [] ⟨Int.le_refl 0, by simp⟩ (Nat.le_refl _)).trans ?_
  · intro n i t ⟨h0, hb⟩
    show step_C7_0 comp res k bands r p i t _ _ = _
    unfold step_C7_0
    by_cases hi : i < (bands.length : Int)
    · simp only [decide_eq_true hi, cond_true, inR_of h0 hi]
      have := hb (by omega)
      refine (inPrecinct_2 comp res k bands i _ r p ⟨h0, hi⟩ (R24_blocks_length _ _ _ _ _) t (by omega) (fun z => loop_C7_0 comp res k bands r p n (IntKind.wrap .i64 (i + 1)) z (fun _ z => e z))).trans ?_
      rw [w64 (n := i + 1) (by omega) (by omega)]
      rfl
    · simp only [decide_eq_false hi, cond_false]
  · intro i t ⟨h0, hb⟩ hi
    refine ⟨by omega, fun h => ?_⟩
    have h1 := hb (by omega)
    show (t ++ refRows r p comp res k (bands.getD i.toNat [])).length <= _
    rw [List.length_append, show (i + 1).toNat = i.toNat + 1 by omega, Nat.add_mul, Nat.one_mul]
    have := refRows_length r p comp res k (bands.getD i.toNat [])
    omega
  · rw [rng_foldl (fun s w => s ++ refRows r p comp res k w), foldl_app, List.nil_append]
theorem good_C7_of (h1 : G_G5) (h2 : G_F2) : G_C7 := by
  refine mk_C7 ?_ ?_ (fun r p comp res k _ => ?_) <;> try assumption
  unfold spec_C7 m_C7
  rw [R06_Indices_eq]
  have h3 := Indices_length p.Levels res
  exact inPrecinct_0 comp res k (m_B6 p.Levels res) r p (by omega) (fun z => some (V.data SBlockID.sh z))
theorem Precincts_eq (r : SRect) (a b : Int) : m_A3 r a b = ((m_C2 r a b 12).2.2.1, (m_C2 r a b 12).2.2.2) := rfl
def nPrec (h : SHeader) (p : SParams) (tile comp res : Int) : Int := (m_A7 h p tile comp res).2.1 * (m_A7 h p tile comp res).2.2
theorem nPrec_bd (h : SHeader) (p : SParams) (tile comp res : Int) : 0 <= nPrec h p tile comp res /\ nPrec h p tile comp res <= 65536 := by
  have hc : ∀ (b : Bool) (x y : SRect × Int × Int), (0 <= x.2.1 * x.2.2 /\ x.2.1 * x.2.2 <= 65536) -> (0 <= y.2.1 * y.2.2 /\ y.2.1 * y.2.2 <= 65536) -> (0 <= (bif b then x else y).2.1 * (bif b then x else y).2.2 /\ (bif b then x else y).2.1 * (bif b then x else y).2.2 <= 65536) := by
    intro b x y hx hy
    cases b
    · exact hy
    · exact hx
  unfold nPrec m_A7
  refine hc _ _ _ ?_ ?_
  · exact ⟨by decide, by decide⟩
  · have bd := grid_bd (m_A6 (m_B2 h tile comp) p.Levels res) (m_B4 p res).X (m_B4 p res).Y 12 (by omega)
    exact ⟨Int.mul_nonneg bd.2.2.1.1 bd.2.2.2.1.1, bd.2.2.2.2⟩
def precRow (h : SHeader) (p : SParams) (tile comp res k : Int) : List V := [V.data SBlockID.sh (m_B7 h p tile ⟨comp, res, k, 0⟩)]
theorem All_4 (tile comp res q1 q2 n0 : Int) (h : SHeader) (p : SParams) (hn0 : n0 <= 65536) (s : Rows) (hs : s.length <= 1099511000000) (e : Rows -> Option R) (m : Nat) (hm : (n0 - 0).toNat + 1 <= m) :
    loop_G4_4 tile comp res q1 q2 n0 h p m 0 s (fun _ z => e z) = e (s ++ (rngI 0 n0).map (precRow h p tile comp res)) := by
  refine (loop_foldB (b := n0) (L := fun n i s => loop_G4_4 tile comp res q1 q2 n0 h p n i s (fun _ z => e z)) (g := fun s i => s ++ [precRow h p tile comp res i]) (e := e) (fun i t => 0 <= i /\ t.length <= s.length + i.toNat) ?_ ?_ m 0 s ⟨Int.le_refl 0, by omega⟩ hm).trans ?_
  · intro n i t ⟨h0, hb⟩
    show step_G4_4 tile comp res q1 q2 n0 h p i t _ _ = _
    unfold step_G4_4
    by_cases hi : i < n0
    · have hroom : roomOK (t.length + 1) 24 = true := room_of (by omega)
      simp only [decide_eq_true hi, cond_true, hroom]
      rw [w64 (n := i + 1) (by omega) (by omega)]
      rfl
    · simp only [decide_eq_false hi, cond_false]
  · intro i t ⟨h0, hb⟩ hi
    refine ⟨by omega, ?_⟩
    rw [List.length_append]
    show t.length + 1 <= _
    omega
  · rw [foldl_snoc]
def resRows (h : SHeader) (p : SParams) (tile comp res : Int) : Rows := (rngI 0 (nPrec h p tile comp res)).map (precRow h p tile comp res)
theorem resRows_length (h : SHeader) (p : SParams) (tile comp res : Int) : (resRows h p tile comp res).length <= 65536 := by
  unfold resRows
  rw [List.length_map, length_rngI]
  have := nPrec_bd h p tile comp res
  omega
theorem All_2 (tile comp q1 q2 : Int) (h : SHeader) (p : SParams) (hL : 0 <= p.Levels /\ p.Levels <= 5) (s : Rows) (hs : s.length <= 1099510000000) (e : Rows -> Option R) (m : Nat) (hm : (p.Levels + 1 - 0).toNat + 1 <= m) :
    loop_G4_2 tile comp q1 q2 h p m 0 s (fun _ z => e z) = e (s ++ (rngI 0 (p.Levels + 1)).flatMap (resRows h p tile comp)) := by
  refine (loop_foldB (b := p.Levels + 1) (L := fun n i s => loop_G4_2 tile comp q1 q2 h p n i s (fun _ z => e z)) (g := fun s i => s ++ resRows h p tile comp i) (e := e) (fun i t => 0 <= i /\ (i <= 6 -> t.length <= s.length + i.toNat * 65536)) ?_ ?_ m 0 s ⟨Int.le_refl 0, fun _ => Nat.le_add_right _ _⟩ hm).trans ?_
  · intro n i t ⟨h0, hb⟩
    show step_G4_2 tile comp q1 q2 h p i t _ _ = _
    unfold step_G4_2
    by_cases hi : i <= p.Levels
    · have hi' : i < p.Levels + 1 := by omega
      have hn := nPrec_bd h p tile comp i
      have := hb (by omega)
      simp only [decide_eq_true hi, decide_eq_true hi', cond_true]
      have ew : IntKind.wrap .i64 ((m_A7 h p tile comp i).2.1 * (m_A7 h p tile comp i).2.2) = nPrec h p tile comp i := w64 (by unfold nPrec at hn; omega) (by unfold nPrec at hn; omega)
      rw [ew]
      refine (All_4 tile comp i _ _ (nPrec h p tile comp i) h p hn.2 t (by omega) (fun z => loop_G4_2 tile comp q1 q2 h p n (IntKind.wrap .i64 (i + 1)) z (fun _ z => e z)) _ (Nat.le_refl _)).trans ?_
      rw [w64 (n := i + 1) (by omega) (by omega)]
      rfl
    · have hi' : ¬ i < p.Levels + 1 := by omega
      simp only [decide_eq_false hi, decide_eq_false hi', cond_false]
  · intro i t ⟨h0, hb⟩ hi
    refine ⟨by omega, fun hh => ?_⟩
    have h1 := hb (by omega)
    show (t ++ resRows h p tile comp i).length <= _
    rw [List.length_append, show (i + 1).toNat = i.toNat + 1 by omega, Nat.add_mul, Nat.one_mul]
    have := resRows_length h p tile comp i
    omega
  · rw [foldl_app]
theorem flatMap_rng_le (f : Int -> Rows) (n : Nat) (a b : Int) (h : ∀ i, (f i).length <= n) : ((rngI a b).flatMap f).length <= (b - a).toNat * n := by
  have := flatMap_le f n (rngI a b) fun x _ => h x
  rwa [length_rngI] at this
def compRows (h : SHeader) (p : SParams) (tile comp : Int) : Rows := (rngI 0 (p.Levels + 1)).flatMap (resRows h p tile comp)
theorem compRows_length (h : SHeader) {p : SParams} (hL : 0 <= p.Levels /\ p.Levels <= 5) (tile comp : Int) : (compRows h p tile comp).length <= 393216 := by
  have := flatMap_rng_le (resRows h p tile comp) 65536 0 (p.Levels + 1) fun i => resRows_length h p tile comp i
  unfold compRows
  have h6 : (p.Levels + 1 - 0).toNat <= 6 := by omega
  have := Nat.mul_le_mul_right 65536 h6
  omega
theorem All_0 (tile n0 : Int) (h : SHeader) (p : SParams) (hL : 0 <= p.Levels /\ p.Levels <= 5) (hn : n0 <= 4) (e : Rows -> Option R) (m : Nat) (hm : (n0 - 0).toNat + 1 <= m) :
    loop_G4_0 tile n0 h p m 0 [] (fun _ z => e z) = e ((rngI 0 n0).flatMap (compRows h p tile)) := by
  refine (loop_foldB (b := n0) (L := fun n i s => loop_G4_0 tile n0 h p n i s (fun _ z => e z)) (g := fun s i => s ++ compRows h p tile i) (e := e) (fun i t => 0 <= i /\ (i <= 4 -> t.length <= i.toNat * 393216)) ?_ ?_ m 0 [] ⟨Int.le_refl 0, fun _ => Nat.zero_le _⟩ hm).trans ?_
  · intro n i t ⟨h0, hb⟩
    show step_G4_0 tile n0 h p i t _ _ = _
    unfold step_G4_0
    by_cases hi : i < n0
    · have := hb (by omega)
      simp only [decide_eq_true hi, cond_true]
      refine (All_2 tile i n0 i h p hL t (by omega) (fun z => loop_G4_0 tile n0 h p n (IntKind.wrap .i64 (i + 1)) z (fun _ z => e z)) _ (by
        show _ <= Int.toNat (p.Levels - 0) + 2
        omega)).trans ?_
      rw [w64 (n := i + 1) (by omega) (by omega)]
      rfl
    · simp only [decide_eq_false hi, cond_false]
  · intro i t ⟨h0, hb⟩ hi
    refine ⟨by omega, fun hh => ?_⟩
    have h1 := hb (by omega)
    show (t ++ compRows h p tile i).length <= _
    rw [List.length_append, show (i + 1).toNat = i.toNat + 1 by omega, Nat.add_mul, Nat.one_mul]
    have := compRows_length h hL tile i
    omega
  · rw [foldl_app, List.nil_append]
theorem exists_iff {h : SHeader} {p : SParams} {t c : Int} : m_D6 h p t c = true ↔ m_F0 h p = 0 /\ (0 <= t /\ t < ((m_E7 h).length : Int)) /\ 0 <= c /\ c < (h.Components.length : Int) := by
  have e : ∀ (a b : Bool), (bif a then b else false) = (a && b) := by intro a b; cases a <;> rfl
  unfold m_D6
  simp only [e, b_true, Bool.and_eq_true, decide_eq_true_eq, beq_iff_eq]
  constructor
  · rintro ⟨⟨h1, h2⟩, ⟨h3, h4⟩, h5⟩; exact ⟨h1, ⟨h2, h3⟩, h4, h5⟩
  · rintro ⟨h1, ⟨h2, h3⟩, h4, h5⟩; exact ⟨⟨h1, h2⟩, ⟨h3, h4⟩, h5⟩
theorem check_ok {h : SHeader} {p : SParams} (hz : m_F0 h p = 0) : m_C9 h = 0 /\ kindB p = true /\ numB p = true /\ colorB h p = true /\ (cellsL h.Area h.TileW h.TileH).all (fun t => m_B9 h p t) = true := by
  unfold m_F0 at hz
  by_cases h0 : m_C9 h = 0
  · rw [show (m_C9 h != 0) = false by rw [h0]; rfl] at hz
    cases hk : kindB p with
    | false => rw [hk] at hz; cases hz
    | true =>
      cases hn : m_C4 h p with
      | false => rw [hk, hn] at hz; cases hz
      | true =>
        cases hc : (cellsL h.Area h.TileW h.TileH).all (fun t => m_B9 h p t) with
        | false => rw [hk, hn, hc] at hz; cases hz
        | true =>
          unfold m_C4 at hn
          rw [Bool.and_eq_true] at hn
          exact ⟨h0, rfl, hn.1, hn.2, rfl⟩
  · rw [show (m_C9 h != 0) = true from bne_iff_ne.2 h0] at hz
    exact absurd hz h0
theorem join_flat {α : Type} (f : α -> Rows) (l : List α) : m_F9 (l.flatMap f) = l.flatMap fun x => m_F9 (f x) := by
  unfold m_F9
  rw [List.flatMap_assoc]
theorem join_resRows (h : SHeader) (p : SParams) (tile comp res : Int) : m_F9 (resRows h p tile comp res) = (rngI 0 (nPrec h p tile comp res)).flatMap fun k => m_B7 h p tile ⟨comp, res, k, 0⟩ := by
  unfold resRows m_F9
  rw [List.flatMap_map]
  rfl
theorem All_lists {h : SHeader} {p : SParams} {tile : Int} (he : m_D6 h p tile 0 = true) : m_F9 ((rngI 0 (h.Components.length : Int)).flatMap (compRows h p tile)) = m_G4 h p tile := by
  unfold m_G4
  rw [he, cond_true, join_flat]
  congr 1
  funext comp
  unfold compRows
  rw [join_flat]
  congr 1
  funext res
  rw [join_resRows]
  have hn := nPrec_bd h p tile comp res
  rw [show IntKind.wrap .i64 ((m_A7 h p tile comp res).2.1 * (m_A7 h p tile comp res).2.2) = nPrec h p tile comp res from w64 (by unfold nPrec at hn; omega) (by unfold nPrec at hn; omega)]
theorem All_spec (h : SHeader) (p : SParams) (tile : Int) : spec_G4 h p tile some = some (V.data SBlockID.sh (m_G4 h p tile)) := by
  unfold spec_G4
  cases he : m_D6 h p tile 0 with
  | false =>
    unfold m_G4
    rw [he]
    rfl
  | true =>
    obtain ⟨hc, _, _⟩ := exists_iff.1 he
    obtain ⟨hh, _, hn, _, _⟩ := check_ok hc
    have hL := (numB_iff hn).1
    have h4 := head_comps hh
    simp only [Bool.not_true, cond_false]
    refine (All_0 tile (h.Components.length : Int) h p hL (by omega) (fun z => bif pre_F9 z then some (V.data SBlockID.sh (m_F9 z)) else none) _ (Nat.le_refl _)).trans ?_
    have hj := All_lists he
    have hlen : ((rngI 0 (h.Components.length : Int)).flatMap (compRows h p tile)).length <= 1572864 := by
      have := flatMap_rng_le (compRows h p tile) 393216 0 (h.Components.length : Int) fun i => compRows_length h hL tile i
      have h5 : ((h.Components.length : Int) - 0).toNat <= 4 := by omega
      have := Nat.mul_le_mul_right 393216 h5
      omega
    have hall : (m_G4 h p tile).length <= 1099511627776 := by
      unfold m_G4
      rw [he, cond_true]
      have h1 : ∀ comp res, ((rngI 0 (IntKind.wrap .i64 ((m_A7 h p tile comp res).2.1 * (m_A7 h p tile comp res).2.2))).flatMap fun k => m_B7 h p tile ⟨comp, res, k, 0⟩).length <= 12884901888 := by
        intro comp res
        have hb := nPrec_bd h p tile comp res
        rw [show IntKind.wrap .i64 ((m_A7 h p tile comp res).2.1 * (m_A7 h p tile comp res).2.2) = nPrec h p tile comp res from w64 (by unfold nPrec at hb; omega) (by unfold nPrec at hb; omega)]
        have := flatMap_rng_le (fun k => m_B7 h p tile ⟨comp, res, k, 0⟩) 196608 0 (nPrec h p tile comp res) fun i => precinct_length h p tile _
        have h5 : (nPrec h p tile comp res - 0).toNat <= 65536 := by omega
        have := Nat.mul_le_mul_right 196608 h5
        omega
      have h2 : ∀ comp, ((rngI 0 (p.Levels + 1)).flatMap fun res => (rngI 0 (IntKind.wrap .i64 ((m_A7 h p tile comp res).2.1 * (m_A7 h p tile comp res).2.2))).flatMap fun k => m_B7 h p tile ⟨comp, res, k, 0⟩).length <= 77309411328 := by
        intro comp
        have := flatMap_rng_le _ 12884901888 0 (p.Levels + 1) fun i => h1 comp i
        have h5 : (p.Levels + 1 - 0).toNat <= 6 := by omega
        have := Nat.mul_le_mul_right 12884901888 h5
        omega
      have := flatMap_rng_le _ 77309411328 0 (h.Components.length : Int) fun i => h2 i
      have h5 : ((h.Components.length : Int) - 0).toNat <= 4 := by omega
      have := Nat.mul_le_mul_right 77309411328 h5
      omega
    have hp : pre_F9 ((rngI 0 (h.Components.length : Int)).flatMap (compRows h p tile)) = true := by
      unfold pre_F9
      rw [hj, Nat.ble_eq_true_of_le (by omega), Nat.ble_eq_true_of_le hall]
      rfl
    simp only [hp, cond_true]
    rw [hj]
theorem good_G4_of (h1 : G_D6) (h2 : G_A7) (h3 : G_B7) (h4 : G_F9) : G_G4 := by
  refine mk_G4 ?_ ?_ ?_ ?_ (fun h p t _ => All_spec h p t) <;> assumption
theorem rngI_nodup (a b : Int) : (rngI a b).Pairwise fun x y => x ≠ y := by
  unfold rngI
  rw [List.pairwise_map]
  refine List.Pairwise.imp ?_ List.nodup_range
  intro x y h
  omega
theorem pw_flat {α β : Type} {R : β -> β -> Prop} {S : α -> α -> Prop} {l : List α} {f : α -> List β} (hS : l.Pairwise S) (h1 : ∀ a ∈ l, (f a).Pairwise R) (h2 : ∀ a b, S a b -> ∀ x ∈ f a, ∀ y ∈ f b, R x y) : (l.flatMap f).Pairwise R := by
  rw [List.pairwise_flatMap]
  exact ⟨h1, hS.imp fun {a b} h => h2 a b h⟩
def Diff (x y : List V) : Prop := SBlockID.of x ≠ SBlockID.of y
theorem idRows_mem {c r b k : Int} {l : Rows} {w : List V} (h : w ∈ idRows c r b k l) : (SBlockID.of w).Comp = c /\ (SBlockID.of w).Res = r /\ (SBlockID.of w).Band = b /\ (SBlockID.of w).Precinct = k := by
  unfold idRows at h
  obtain ⟨i, _, rfl⟩ := List.mem_map.1 h
  exact ⟨rfl, rfl, rfl, rfl⟩
theorem idRows_diff (c r b k : Int) (l : Rows) : (idRows c r b k l).Pairwise Diff := by
  unfold idRows
  rw [List.pairwise_map]
  refine (rngI_nodup 0 (l.length : Int)).imp ?_
  intro i j hij h
  exact hij (congrArg SBlockID.Index h)
theorem Indices_diff {l res : Int} (hl : 0 <= l /\ l <= 5) (h0 : 0 <= res) (h1 : res <= l) : (m_B6 l res).Pairwise fun x y => V.toInt (List.getD x 0 V.undef) ≠ V.toInt (List.getD y 0 V.undef) := by
  rw [Indices_eq hl h0 h1]
  split
  · exact List.pairwise_singleton _ _
  · refine List.Pairwise.cons ?_ (List.Pairwise.cons ?_ (List.pairwise_singleton _ _))
    · intro y hy
      simp only [List.mem_cons, List.not_mem_nil, or_false] at hy
      rcases hy with rfl | rfl
      · show 3 * res - 2 ≠ 3 * res - 1
        omega
      · show 3 * res - 2 ≠ 3 * res
        omega
    · intro y hy
      simp only [List.mem_cons, List.not_mem_nil, or_false] at hy
      subst hy
      show 3 * res - 1 ≠ 3 * res
      omega
theorem precinct_mem {h : SHeader} {p : SParams} {tile : Int} {id : SPacketID} {w : List V} (hw : w ∈ m_B7 h p tile id) : (SBlockID.of w).Comp = id.Comp /\ (SBlockID.of w).Res = id.Res /\ (SBlockID.of w).Precinct = id.Precinct := by
  unfold m_B7 m_A8 at hw
  obtain ⟨v, _, hv⟩ := List.mem_flatMap.1 hw
  obtain ⟨h1, h2, _, h4⟩ := idRows_mem hv
  exact ⟨h1, h2, h4⟩
theorem precinct_diff (h : SHeader) {p : SParams} (tile : Int) (id : SPacketID) (hl : 0 <= p.Levels /\ p.Levels <= 5) (h0 : 0 <= id.Res) (h1 : id.Res <= p.Levels) : (m_B7 h p tile id).Pairwise Diff := by
  unfold m_B7
  refine pw_flat (Indices_diff hl h0 h1) (fun a _ => idRows_diff _ _ _ _ _) ?_
  intro a b hab x hx y hy he
  unfold m_A8 at hx hy
  have e1 := (idRows_mem hx).2.2.1
  have e2 := (idRows_mem hy).2.2.1
  apply hab
  rw [<- e1, <- e2, he]
theorem All_diff (h : SHeader) (p : SParams) (tile : Int) : (m_G4 h p tile).Pairwise Diff := by
  unfold m_G4
  cases he : m_D6 h p tile 0 with
  | false => exact List.Pairwise.nil
  | true =>
    obtain ⟨hc, _, _⟩ := exists_iff.1 he
    obtain ⟨_, _, hn, _, _⟩ := check_ok hc
    have hL := (numB_iff hn).1
    rw [cond_true]
    have comp_of : ∀ comp, ∀ w ∈ ((rngI 0 (p.Levels + 1)).flatMap fun res => (rngI 0 (IntKind.wrap .i64 ((m_A7 h p tile comp res).2.1 * (m_A7 h p tile comp res).2.2))).flatMap fun k => m_B7 h p tile ⟨comp, res, k, 0⟩), (SBlockID.of w).Comp = comp := by
      intro comp w hw
      obtain ⟨res, _, hw⟩ := List.mem_flatMap.1 hw
      obtain ⟨k, _, hw⟩ := List.mem_flatMap.1 hw
      exact (precinct_mem hw).1
    have res_of : ∀ comp res, ∀ w ∈ ((rngI 0 (IntKind.wrap .i64 ((m_A7 h p tile comp res).2.1 * (m_A7 h p tile comp res).2.2))).flatMap fun k => m_B7 h p tile ⟨comp, res, k, 0⟩), (SBlockID.of w).Res = res := by
      intro comp res w hw
      obtain ⟨k, _, hw⟩ := List.mem_flatMap.1 hw
      exact (precinct_mem hw).2.1
    refine pw_flat (rngI_nodup _ _) (fun comp _ => pw_flat (rngI_nodup _ _) (fun res hr => pw_flat (rngI_nodup _ _) (fun k _ => precinct_diff h tile _ hL ?_ ?_) ?_) ?_) ?_
    · exact (mem_rngI.1 hr).1
    · have := (mem_rngI.1 hr).2
      show res <= _
      omega
    · intro a b hab x hx y hy hxy
      have e1 := (precinct_mem hx).2.2
      have e2 := (precinct_mem hy).2.2
      apply hab
      show a = b
      rw [show a = _ from e1.symm, show b = _ from e2.symm, hxy]
    · intro a b hab x hx y hy hxy
      exact hab ((res_of comp a x hx).symm.trans ((congrArg SBlockID.Res hxy).trans (res_of comp b y hy)))
    · intro a b hab x hx y hy hxy
      exact hab ((comp_of a x hx).symm.trans ((congrArg SBlockID.Comp hxy).trans (comp_of b y hy)))
theorem flat_congr {α β : Type} {f g : α -> List β} : ∀ {l : List α}, (∀ x ∈ l, f x = g x) -> l.flatMap f = l.flatMap g
  | [], _ => rfl
  | x :: l, h => by rw [List.flatMap_cons, List.flatMap_cons, h x (List.mem_cons_self ..), flat_congr fun y hy => h y (List.mem_cons_of_mem _ hy)]
theorem R24_Tiles_eq : m_I2 = m_E7 := rfl
theorem R24_ValidTile_eq : m_E0 = m_D6 := rfl
theorem R24_Component_eq (h : SHeader) (t c : Int) : m_D7 h t c = m_B2 h t c := by
  unfold m_D7 m_B2
  rw [R24_Tiles_eq]
  by_cases h1 : t < 0
  · simp only [decide_eq_true h1]; rfl
  · by_cases h2 : t >= ((m_E7 h).length : Int)
    · simp only [decide_eq_true h2]; rfl
    · by_cases h3 : c < 0
      · simp only [decide_eq_true h3, decide_eq_false h2]; rfl
      · by_cases h4 : c >= (h.Components.length : Int)
        · simp only [decide_eq_false h1, decide_eq_false h2, decide_eq_false h3, decide_eq_true h4]
          rfl
        · have i1 := inR_of (i := t) (n := (m_E7 h).length) (by omega) (by omega)
          have i2 := inR_of (i := c) (n := h.Components.length) (by omega) (by omega)
          simp only [decide_eq_false h1, decide_eq_false h2, decide_eq_false h3, decide_eq_false h4, i1, i2]
          rfl
theorem Indices_mem {l res : Int} (hl : 0 <= l /\ l <= 5) (h0 : 0 <= res) (h1 : res <= l) {w : List V} (hw : w ∈ m_B6 l res) :
    0 <= V.toInt (List.getD w 0 V.undef) /\ V.toInt (List.getD w 0 V.undef) <= 3 * l /\ (V.toInt (List.getD w 0 V.undef) + 2) / 3 = res := by
  rw [Indices_eq hl h0 h1] at hw
  split at hw
  · rename_i hz
    rw [List.mem_singleton] at hw
    subst hw
    show 0 <= (0 : Int) /\ (0 : Int) <= _ /\ ((0 : Int) + 2) / 3 = _
    omega
  · rename_i hz
    simp only [List.mem_cons, List.not_mem_nil, or_false] at hw
    rcases hw with rfl | rfl | rfl
    · show 0 <= 3 * res - 2 /\ 3 * res - 2 <= _ /\ (3 * res - 2 + 2) / 3 = _
      omega
    · show 0 <= 3 * res - 1 /\ 3 * res - 1 <= _ /\ (3 * res - 1 + 2) / 3 = _
      omega
    · show 0 <= 3 * res /\ 3 * res <= _ /\ (3 * res + 2) / 3 = _
      omega
theorem inPrecinct_eq (h : SHeader) {p : SParams} (tile comp k : Int) (hn : numB p = true) {res : Int} (h0 : 0 <= res) (h1 : res <= p.Levels) :
    m_C7 (m_B2 h tile comp) p comp res k = m_B7 h p tile ⟨comp, res, k, 0⟩ := by
  have hL := (numB_iff hn).1
  unfold m_C7 m_B7 m_A8
  refine flat_congr fun w hw => ?_
  obtain ⟨b0, b1, b2⟩ := Indices_mem hL h0 h1 hw
  rw [<- find_blocks h tile comp k hn h0 h1 b0 b1 b2]
theorem inPrecinct_length (r : SRect) (p : SParams) (comp res k : Int) : (m_C7 r p comp res k).length <= 196608 := by
  unfold m_C7
  have := flatMap_le (fun w => idRows comp res (V.toInt (List.getD w 0 V.undef)) k (m_G5 r p res (V.toInt (List.getD w 0 V.undef)) k).2.2) 65536 (m_B6 p.Levels res) fun w _ => refRows_length r p comp res k w
  have h3 := Indices_length p.Levels res
  have := Nat.mul_le_mul_right 65536 h3
  omega
theorem RAll_4 (tile comp res q1 q2 : Int) (h : SHeader) (p : SParams) (r : SRect) (hq : 0 <= q1 * q2 /\ q1 * q2 <= 65536) (s : Rows) (hs : s.length <= 1000000000000) (e : Rows -> Option R) (m : Nat) (hm : (q1 * q2 - 0).toNat + 1 <= m) :
    loop_J8_4 tile comp res q1 q2 h p r m 0 s (fun _ z => e z) = e (s ++ (rngI 0 (q1 * q2)).flatMap (m_C7 r p comp res)) := by
  refine (loop_foldB (b := q1 * q2) (L := fun n i s => loop_J8_4 tile comp res q1 q2 h p r n i s (fun _ z => e z)) (g := fun s i => s ++ m_C7 r p comp res i) (e := e) (fun i t => 0 <= i /\ (i <= 65536 -> t.length <= s.length + i.toNat * 196608)) ?_ ?_ m 0 s ⟨Int.le_refl 0, fun _ => Nat.le_add_right _ _⟩ hm).trans ?_
  · intro n i t ⟨h0, hb⟩
    show step_J8_4 tile comp res q1 q2 h p r i t _ _ = _
    unfold step_J8_4
    rw [w64 (n := q1 * q2) (by omega) (by omega)]
    by_cases hi : i < q1 * q2
    · have hl := inPrecinct_length r p comp res i
      have hb := hb (by omega)
      have hroom : roomOK (t.length + (m_C7 r p comp res i).length) 72 = true := room_of (by omega)
      simp only [decide_eq_true hi, cond_true, hroom]
      rw [w64 (n := i + 1) (by omega) (by omega)]
    · simp only [decide_eq_false hi, cond_false]
  · intro i t ⟨h0, hb⟩ hi
    refine ⟨by omega, fun _ => ?_⟩
    have hb := hb (by omega)
    have hl := inPrecinct_length r p comp res i
    rw [List.length_append, show (i + 1).toNat = i.toNat + 1 by omega, Nat.add_mul, Nat.one_mul]
    omega
  · rw [foldl_app]
def rRows (r : SRect) (p : SParams) (comp res : Int) : Rows := (rngI 0 ((m_C3 r p res).2.1 * (m_C3 r p res).2.2)).flatMap (m_C7 r p comp res)
theorem res_bd (r : SRect) (p : SParams) (res : Int) : 0 <= (m_C3 r p res).2.1 * (m_C3 r p res).2.2 /\ (m_C3 r p res).2.1 * (m_C3 r p res).2.2 <= 65536 := by
  unfold m_C3
  simp only [R22_Precincts_eq]
  have bd := grid_bd (m_C1 r p.Levels res) (m_E8 p res).X (m_E8 p res).Y 12 (by omega)
  exact ⟨Int.mul_nonneg bd.2.2.1.1 bd.2.2.2.1.1, bd.2.2.2.2⟩
theorem rRows_length (r : SRect) (p : SParams) (comp res : Int) : (rRows r p comp res).length <= 12884901888 := by
  unfold rRows
  have hb := res_bd r p res
  have := flatMap_rng_le (m_C7 r p comp res) 196608 0 ((m_C3 r p res).2.1 * (m_C3 r p res).2.2) fun i => inPrecinct_length r p comp res i
  have h5 : ((m_C3 r p res).2.1 * (m_C3 r p res).2.2 - 0).toNat <= 65536 := by omega
  have := Nat.mul_le_mul_right 196608 h5
  omega
theorem RAll_2 (tile comp : Int) (h : SHeader) (p : SParams) (r : SRect) (hL : 0 <= p.Levels /\ p.Levels <= 5) (s : Rows) (hs : s.length <= 900000000000) (e : Rows -> Option R) (m : Nat) (hm : (p.Levels + 1 - 0).toNat + 1 <= m) :
    loop_J8_2 tile comp h p r m 0 s (fun _ z => e z) = e (s ++ (rngI 0 (p.Levels + 1)).flatMap (rRows r p comp)) := by
  refine (loop_foldB (b := p.Levels + 1) (L := fun n i s => loop_J8_2 tile comp h p r n i s (fun _ z => e z)) (g := fun s i => s ++ rRows r p comp i) (e := e) (fun i t => 0 <= i /\ (i <= 6 -> t.length <= s.length + i.toNat * 12884901888)) ?_ ?_ m 0 s ⟨Int.le_refl 0, fun _ => Nat.le_add_right _ _⟩ hm).trans ?_
  · intro n i t ⟨h0, hb⟩
    show step_J8_2 tile comp h p r i t _ _ = _
    unfold step_J8_2
    by_cases hi : i <= p.Levels
    · have hi' : i < p.Levels + 1 := by omega
      have hn := res_bd r p i
      have hb := hb (by omega)
      simp only [decide_eq_true hi, decide_eq_true hi', cond_true]
      refine (RAll_4 tile comp i _ _ h p r hn t (by omega) (fun z => loop_J8_2 tile comp h p r n (IntKind.wrap .i64 (i + 1)) z (fun _ z => e z)) _ (by
        show _ <= Int.toNat (IntKind.wrap .i64 ((m_C3 r p i).2.1 * (m_C3 r p i).2.2) - 0) + 1
        rw [w64 (by omega) (by omega)]
        exact Nat.le_refl _)).trans ?_
      rw [w64 (n := i + 1) (by omega) (by omega)]
      rfl
    · have hi' : ¬ i < p.Levels + 1 := by omega
      simp only [decide_eq_false hi, decide_eq_false hi', cond_false]
  · intro i t ⟨h0, hb⟩ hi
    refine ⟨by omega, fun hh => ?_⟩
    have h1 := hb (by omega)
    show (t ++ rRows r p comp i).length <= _
    rw [List.length_append, show (i + 1).toNat = i.toNat + 1 by omega, Nat.add_mul, Nat.one_mul]
    have := rRows_length r p comp i
    omega
  · rw [foldl_app]
def cRows (h : SHeader) (p : SParams) (tile comp : Int) : Rows := (rngI 0 (p.Levels + 1)).flatMap (rRows (m_D7 h tile comp) p comp)
theorem cRows_length (h : SHeader) {p : SParams} (hL : 0 <= p.Levels /\ p.Levels <= 5) (tile comp : Int) : (cRows h p tile comp).length <= 77309411328 := by
  have := flatMap_rng_le (rRows (m_D7 h tile comp) p comp) 12884901888 0 (p.Levels + 1) fun i => rRows_length _ p comp i
  unfold cRows
  have h6 : (p.Levels + 1 - 0).toNat <= 6 := by omega
  have := Nat.mul_le_mul_right 12884901888 h6
  omega
theorem RAll_0 (tile : Int) (h : SHeader) (p : SParams) (hL : 0 <= p.Levels /\ p.Levels <= 5) (hn : (h.Components.length : Int) <= 4) (e : Rows -> Option R) (m : Nat) (hm : ((h.Components.length : Int) - 0).toNat + 1 <= m) :
    loop_J8_0 tile h p m 0 [] (fun _ z => e z) = e ((rngI 0 (h.Components.length : Int)).flatMap (cRows h p tile)) := by
  refine (loop_foldB (b := (h.Components.length : Int)) (L := fun n i s => loop_J8_0 tile h p n i s (fun _ z => e z)) (g := fun s i => s ++ cRows h p tile i) (e := e) (fun i t => 0 <= i /\ (i <= 4 -> t.length <= i.toNat * 77309411328)) ?_ ?_ m 0 [] ⟨Int.le_refl 0, fun _ => Nat.zero_le _⟩ hm).trans ?_
  · intro n i t ⟨h0, hb⟩
    show step_J8_0 tile h p i t _ _ = _
    unfold step_J8_0
    by_cases hi : i < (h.Components.length : Int)
    · have := hb (by omega)
      simp only [decide_eq_true hi, cond_true]
      refine (RAll_2 tile i h p (m_D7 h tile i) hL t (by omega) (fun z => loop_J8_0 tile h p n (IntKind.wrap .i64 (i + 1)) z (fun _ z => e z)) _ (by
        show _ <= Int.toNat (p.Levels - 0) + 2
        omega)).trans ?_
      rw [w64 (n := i + 1) (by omega) (by omega)]
      rfl
    · simp only [decide_eq_false hi, cond_false]
  · intro i t ⟨h0, hb⟩ hi
    refine ⟨by omega, fun hh => ?_⟩
    have h1 := hb (by omega)
    show (t ++ cRows h p tile i).length <= _
    rw [List.length_append, show (i + 1).toNat = i.toNat + 1 by omega, Nat.add_mul, Nat.one_mul]
    have := cRows_length h hL tile i
    omega
  · rw [foldl_app, List.nil_append]
theorem RAll_lists {h : SHeader} {p : SParams} {tile : Int} (he : m_D6 h p tile 0 = true) : (rngI 0 (h.Components.length : Int)).flatMap (cRows h p tile) = m_G4 h p tile := by
  obtain ⟨hc, ht, _⟩ := exists_iff.1 he
  obtain ⟨_, _, hn, _, _⟩ := check_ok hc
  have hL := (numB_iff hn).1
  unfold m_G4
  rw [he, cond_true]
  refine flat_congr fun comp hcomp => ?_
  have hcb := mem_rngI.1 hcomp
  unfold cRows
  refine flat_congr fun res hres => ?_
  have hrb := mem_rngI.1 hres
  have hex : m_D6 h p tile comp = true := exists_iff.2 ⟨hc, ht, hcb⟩
  have er : m_C3 (m_D7 h tile comp) p res = m_A7 h p tile comp res := by
    unfold m_A7 m_C3
    have d1 : ¬ res < 0 := by omega
    have d2 : ¬ res > p.Levels := by omega
    rw [hex, R24_Component_eq]
    simp only [decide_eq_false d1, decide_eq_false d2, Bool.not_true, cond_false, R22_Precincts_eq, Precincts_eq]
    rfl
  unfold rRows
  rw [er]
  have hb := nPrec_bd h p tile comp res
  rw [w64 (n := (m_A7 h p tile comp res).2.1 * (m_A7 h p tile comp res).2.2) (by unfold nPrec at hb; omega) (by unfold nPrec at hb; omega)]
  refine flat_congr fun k _ => ?_
  rw [R24_Component_eq]
  exact inPrecinct_eq h tile comp k hn hrb.1 (by omega)
theorem RAll_spec (h : SHeader) (p : SParams) (tile : Int) : spec_J8 h p tile some = some (V.data SBlockID.sh (m_J8 h p tile)) := by
  unfold spec_J8 m_J8
  rw [R24_ValidTile_eq]
  cases he : m_D6 h p tile 0 with
  | false =>
    unfold m_G4
    rw [he]
    rfl
  | true =>
    obtain ⟨hc, _, _⟩ := exists_iff.1 he
    obtain ⟨hh, _, hn, _, _⟩ := check_ok hc
    have hL := (numB_iff hn).1
    have h4 := head_comps hh
    simp only [Bool.not_true, cond_false]
    refine (RAll_0 tile h p hL (by omega) (fun z => some (V.data SBlockID.sh z)) _ (Nat.le_refl _)).trans ?_
    rw [RAll_lists he]
theorem good_J8_of (h1 : G_D7) (h2 : G_E0) (h3 : G_C3) (h4 : G_C7) : G_J8 := by
  refine mk_J8 ?_ ?_ ?_ ?_ (fun h p t _ => RAll_spec h p t) <;> assumption
theorem setCells4 (r : SRect) : ∀ {l : List V}, l.length = 4 -> setCells l 0 (SRect.row r) = SRect.row r
  | [a, b, c, d], _ => rfl
  | [], h => by cases h
  | [_], h => by cases h
  | [_, _], h => by cases h
  | [_, _, _], h => by cases h
  | _ :: _ :: _ :: _ :: _ :: _, h => by simp at h
def R4 (n : Nat) (o : Rows) : Prop := o.length = n /\ ∀ w ∈ o, w.length = 4
theorem R4.set {n : Nat} {o : Rows} (h : R4 n o) (i : Nat) (r : SRect) : R4 n (o.set i (SRect.row r)) := by
  refine ⟨by rw [List.length_set]; exact h.1, fun w hw => ?_⟩
  rcases List.mem_or_eq_of_mem_set hw with hw | rfl
  · exact h.2 w hw
  · rfl
theorem R4.at {n : Nat} {o : Rows} (h : R4 n o) {i : Nat} (hi : i < n) : (List.getD o i []).length = 4 := by
  have h1 : i < o.length := by rw [h.1]; exact hi
  rw [List.getD_eq_getElem?_getD, List.getElem?_eq_getElem h1]
  exact h.2 _ (List.getElem_mem h1)
theorem bandsOf_valid {r : SRect} (hv : m_H3 r = true) : m_H3 (bandsOf r).e0 = true := by
  obtain ⟨⟨h1, h2, h3⟩, h4, h5, h6⟩ := Valid_iff.1 hv
  exact Valid_iff.2 ⟨⟨by show 0 <= (r.X0 + 1) / 2; omega, by show (r.X0 + 1) / 2 <= (r.X1 + 1) / 2; omega, by show (r.X1 + 1) / 2 <= 4096; omega⟩, by show 0 <= (r.Y0 + 1) / 2; omega, by show (r.Y0 + 1) / 2 <= (r.Y1 + 1) / 2; omega, by show (r.Y1 + 1) / 2 <= 4096; omega⟩
theorem with_res (a : SRect) (l i : Int) (w : SRect) : m_H3 (m_C6 w (m_A6 a l i)) = true := by
  have hv := Resolution_valid a l i
  obtain ⟨⟨h1, _⟩, h4, _⟩ := Valid_iff.1 hv
  exact Intersect_valid (Or.inr hv) (Or.inr h1) (Or.inr h4)
theorem needN_ok (a : SRect) (l m : Int) : ∀ (n N : Nat) (o : Rows) (w : SRect), R4 N o -> m_H3 w = true -> R4 N (needN a l m n o w).1 /\ m_H3 (needN a l m n o w).2 = true
  | 0, N, o, w, h, hw => ⟨h, hw⟩
  | n + 1, N, o, w, h, hw => by
    unfold needN
    refine needN_ok a l m n N _ _ (((h.set _ _).set _ _).set _ _) ?_
    rw [dwt_Bands_eq (with_res _ _ _ _)]
    exact bandsOf_valid (with_res _ _ _ _)
theorem Margin_bd (k : Int) : 0 <= m_F3 k /\ m_F3 k <= 4 := by
  have hc : ∀ (b : Bool) (x y : Int), (0 <= x /\ x <= 4) -> (0 <= y /\ y <= 4) -> (0 <= (bif b then x else y) /\ (bif b then x else y) <= 4) := by
    intro b x y hx hy
    cases b
    · exact hy
    · exact hx
  unfold m_F3
  repeat' (first | exact ⟨by decide, by decide⟩ | refine hc _ _ _ ?_ ?_)
theorem Need_loop (a : SRect) (l m : Int) (hl : 0 <= l /\ l <= 5) (hm : 0 <= m /\ m <= 4) (e : Rows -> SRect -> Option R) : ∀ (i n : Nat) (o : Rows) (w : SRect), i + 1 <= n -> (i : Int) <= l -> R4 (3 * l + 1).toNat o -> m_H3 w = true ->
    loop_E3_0 l m a n (i : Int) o w (fun _ z g => e z g) = e (needN a l m i o w).1 (needN a l m i o w).2
  | i, 0, o, w, hn, _, _, _ => by omega
  | 0, n + 1, o, w, _, _, _, _ => by
    show step_E3_0 l m a 0 o w _ _ = _
    unfold step_E3_0
    rfl
  | i + 1, n + 1, o, w, hn, hi, ho, hw => by
    show step_E3_0 l m a ((i + 1 : Nat) : Int) o w _ _ = _
    obtain ⟨⟨h1, h2, h3⟩, h4, h5, h6⟩ := Valid_iff.1 hw
    unfold step_E3_0
    have c1 : ((i + 1 : Nat) : Int) = (i : Int) + 1 := by omega
    rw [c1]
    have hd : (i : Int) + 1 > 0 := by omega
    simp only [decide_eq_true hd, cond_true]
    rw [w64 (n := w.X0 - m) (by omega) (by omega), w64 (n := w.Y0 - m) (by omega) (by omega), w64 (n := w.X1 + m) (by omega) (by omega), w64 (n := w.Y1 + m) (by omega) (by omega),
      w64 (n := 3 * ((i : Int) + 1)) (by omega) (by omega), w64 (n := 3 * ((i : Int) + 1) - 2) (by omega) (by omega), w64 (n := 3 * ((i : Int) + 1) - 1) (by omega) (by omega), w64 (n := (i : Int) + 1 - 1) (by omega) (by omega)]
    have t1 : (3 * ((i : Int) + 1) - 2).toNat = 3 * i + 1 := by omega
    have t2 : (3 * ((i : Int) + 1) - 1).toNat = 3 * i + 2 := by omega
    have t3 : (3 * ((i : Int) + 1)).toNat = 3 * i + 3 := by omega
    have hlen := ho.1
    have r1 : inR (3 * ((i : Int) + 1) - 2) o.length = true := inR_of (by omega) (by omega)
    have r2 : inR (3 * ((i : Int) + 1) - 1) o.length = true := inR_of (by omega) (by omega)
    have r3 : inR (3 * ((i : Int) + 1)) o.length = true := inR_of (by omega) (by omega)
    simp only [List.length_set, r1, r2, r3, cond_true, t1, t2, t3]
    have s1 := ho.at (i := 3 * i + 1) (by omega)
    rw [setCells4 _ s1]
    have o1 := ho.set (3 * i + 1) (m_I7 (m_C6 ⟨w.X0 - m, w.Y0 - m, w.X1 + m, w.Y1 + m⟩ (m_A6 a l ((i : Int) + 1)))).e1
    have s2 := o1.at (i := 3 * i + 2) (by omega)
    rw [setCells4 _ s2]
    have o2 := o1.set (3 * i + 2) (m_I7 (m_C6 ⟨w.X0 - m, w.Y0 - m, w.X1 + m, w.Y1 + m⟩ (m_A6 a l ((i : Int) + 1)))).e2
    have s3 := o2.at (i := 3 * i + 3) (by omega)
    rw [setCells4 _ s3, show (i : Int) + 1 - 1 = (i : Int) by omega]
    refine (Need_loop a l m hl hm e i n _ _ (by omega) (by omega) (o2.set _ _) ?_).trans ?_
    · rw [dwt_Bands_eq (with_res _ _ _ _)]
      exact bandsOf_valid (with_res _ _ _ _)
    · have e1 := show needN a l m (i + 1) o w = (fun (b : SA4_Rect) => needN a l m i (((o.set (3 * i + 1) (SRect.row b.e1)).set (3 * i + 2) (SRect.row b.e2)).set (3 * i + 3) (SRect.row b.e3)) b.e0) (m_I7 (m_C6 ⟨IntKind.wrap .i64 (w.X0 - m), IntKind.wrap .i64 (w.Y0 - m), IntKind.wrap .i64 (w.X1 + m), IntKind.wrap .i64 (w.Y1 + m)⟩ (m_A6 a l ((i : Int) + 1)))) from rfl
      rw [w64 (n := w.X0 - m) (by omega) (by omega), w64 (n := w.Y0 - m) (by omega) (by omega), w64 (n := w.X1 + m) (by omega) (by omega), w64 (n := w.Y1 + m) (by omega) (by omega)] at e1
      rw [e1]
theorem needOK_iff {a : SRect} {l res k : Int} : needOK a l res k = true ↔ m_H3 a = true /\ (0 <= l /\ l <= 5) /\ (0 <= res /\ res <= l) /\ m_F3 k ≠ 0 := by
  unfold needOK
  simp only [Bool.and_eq_true, decide_eq_true_eq, bne_iff_ne]
  constructor
  · rintro ⟨⟨⟨⟨⟨h1, h2⟩, h3⟩, h4⟩, h5⟩, h6⟩; exact ⟨h1, ⟨h2, h3⟩, ⟨h4, h5⟩, h6⟩
  · rintro ⟨h1, ⟨h2, h3⟩, ⟨h4, h5⟩, h6⟩; exact ⟨⟨⟨⟨⟨h1, h2⟩, h3⟩, h4⟩, h5⟩, h6⟩
theorem R4_zero (n : Nat) : R4 n (List.replicate n (SRect.row ⟨0, 0, 0, 0⟩)) := ⟨List.length_replicate, fun w hw => by rw [(List.mem_replicate.1 hw).2]; rfl⟩
theorem Need_spec (a : SRect) (l res : Int) (win : SRect) (k : Int) : spec_E3 a l res win k some = some (V.data SRect.sh (m_E3 a l res win k)) := by
  have hguard : needOK a l res k = false -> (bif (!m_H3 a) == false then (bif (bif (bif (bif !m_A4 l then true else decide (res < 0)) then true else decide (res > l)) then true else (m_F3 k == 0)) then true else false) else true) = true := by
    intro hg
    rw [<- Bool.not_eq_true, needOK_iff] at hg
    cases hv : m_H3 a with
    | false => rfl
    | true =>
      cases hlv : m_A4 l with
      | false => rfl
      | true =>
        have hl := validLevels_iff.1 hlv
        by_cases h1 : res < 0
        · simp only [decide_eq_true h1]; rfl
        · by_cases h2 : res > l
          · simp only [decide_eq_false h1, decide_eq_true h2]; rfl
          · by_cases h3 : m_F3 k = 0
            · simp only [decide_eq_false h1, decide_eq_false h2, h3]; rfl
            · exact absurd ⟨hv, hl, by omega, h3⟩ hg
  unfold spec_E3 m_E3
  cases hok : needOK a l res k with
  | false =>
    have hg := hguard hok
    cases hv : m_H3 a with
    | false => rfl
    | true =>
      rw [hv] at hg
      simp only [Bool.not_true, beq_self_eq_true, cond_true] at hg ⊢
      cases hb : (bif (bif (bif !m_A4 l then true else decide (res < 0)) then true else decide (res > l)) then true else (m_F3 k == 0)) with
      | false => rw [hb] at hg; cases hg
      | true => rfl
  | true =>
    obtain ⟨hv, hl, hr, hk⟩ := needOK_iff.1 hok
    have d1 : ¬ res < 0 := by omega
    have d2 : ¬ res > l := by omega
    have hcnt : m_D2 l = 3 * l + 1 := by rw [pyramid_Count_eq, if_pos hl]
    simp only [hv, validLevels_iff.2 hl, decide_eq_false d1, decide_eq_false d2, beq_eq_false_iff_ne.2 hk, Bool.not_true, beq_self_eq_true, cond_true, cond_false, hcnt]
    have b1 : (0 : Int) <= 3 * l + 1 := by omega
    have b2 : 3 * l + 1 <= 3 * l + 1 := Int.le_refl _
    have b3 : (3 * l + 1) * 32 <= 140737488355328 := by omega
    have b4 : 3 * l + 1 <= 140737488355328 := by omega
    simp only [decide_eq_true b1, decide_eq_true b2, decide_eq_true b3, decide_eq_true b4, Bool.and_true, cond_true]
    show (bif m_H1 (m_C6 win (m_A6 a l res)) then some (V.data SRect.sh (List.replicate (3 * l + 1).toNat (SRect.row ⟨0, 0, 0, 0⟩))) else _) = _
    cases he : m_H1 (m_C6 win (m_A6 a l res)) with
    | true => rfl
    | false =>
      simp only [cond_false]
      have hm := Margin_bd k
      have hres : ((res.toNat : Nat) : Int) = res := by omega
      have key := Need_loop a l (m_F3 k) hl hm (fun z g => bif inR 0 z.length then some (V.data SRect.sh (z.set 0 (setCells (z.getD 0 []) 0 (SRect.row g)))) else none) res.toNat (fuel_E3_0 l (m_F3 k) res a (List.replicate (3 * l + 1).toNat (SRect.row ⟨0, 0, 0, 0⟩)) (m_C6 win (m_A6 a l res))) (List.replicate (3 * l + 1).toNat (SRect.row ⟨0, 0, 0, 0⟩)) (m_C6 win (m_A6 a l res)) (by
        show _ <= Int.toNat (res - 0) + 1
        omega) (by omega) (R4_zero _) (with_res _ _ _ _)
      rw [hres] at key
      refine key.trans ?_
      have hq := (needN_ok a l (m_F3 k) res.toNat _ _ (m_C6 win (m_A6 a l res)) (R4_zero (3 * l + 1).toNat) (with_res _ _ _ _)).1
      have hi : inR 0 (needN a l (m_F3 k) res.toNat (List.replicate (3 * l + 1).toNat (SRect.row ⟨0, 0, 0, 0⟩)) (m_C6 win (m_A6 a l res))).1.length = true := inR_of (Int.le_refl 0) (by rw [hq.1]; omega)
      simp only [hi, cond_true]
      rw [setCells4 _ (hq.at (by omega))]
theorem good_E3_of (h1 : G_H3) (h2 : G_H1) (h3 : G_C6) (h4 : G_A6) (h5 : G_F3) (h6 : G_A4) (h7 : G_D2) (h8 : G_I7) : G_E3 := by
  refine mk_E3 ?_ ?_ ?_ ?_ ?_ ?_ ?_ ?_ (fun a l r w k _ => Need_spec a l r w k) <;> assumption
theorem Known_eq (k : Int) : m_J0 k = (m_F3 k != 0) := by
  unfold m_J0 m_F3
  by_cases h1 : k = 1
  · subst h1; rfl
  · by_cases h2 : k = 2
    · subst h2; rfl
    · by_cases h3 : k = 3
      · subst h3; rfl
      · simp only [beq_eq_false_iff_ne.2 h1, beq_eq_false_iff_ne.2 h2, beq_eq_false_iff_ne.2 h3, cond_false]
        rfl
theorem RNeed_loop (a : SRect) (l m : Int) (k : Int -> Rows -> SRect -> Option R) : ∀ (n : Nat) (i : Int) (o : Rows) (w : SRect), loop_J5_0 l m a n i o w k = loop_E3_0 l m a n i o w k
  | 0, i, o, w => rfl
  | n + 1, i, o, w => by
    show step_J5_0 l m a i o w (fun i o w => loop_J5_0 l m a n i o w k) k = step_E3_0 l m a i o w (fun i o w => loop_E3_0 l m a n i o w k) k
    rw [show (fun i o w => loop_J5_0 l m a n i o w k) = (fun i o w => loop_E3_0 l m a n i o w k) from funext fun i => funext fun o => funext fun w => RNeed_loop a l m k n i o w]
    unfold step_J5_0 step_E3_0
    simp only [R05_Bands_eq]
    rfl
theorem RNeed_spec (a : SRect) (l res : Int) (win : SRect) (k : Int) : spec_J5 a l res win k some = spec_E3 a l res win k some := by
  unfold spec_J5 spec_E3
  rw [R01_Valid_eq, Known_eq]
  simp only [count_zero]
  simp only [R06_Count_eq]
  cases hv : m_H3 a with
  | false => rfl
  | true =>
    cases hb : (bif (bif !m_A4 l then true else decide (res < 0)) then true else decide (res > l)) with
    | true => rfl
    | false =>
      by_cases hk : m_F3 k = 0
      · simp only [hk]
        rfl
      · simp only [bne_iff_ne.2 hk, beq_eq_false_iff_ne.2 hk, RNeed_loop]
        rfl
theorem good_J5_of (h1 : G_H8) (h2 : G_D9) (h3 : G_H5) (h4 : G_J1) (h5 : G_J0) (h6 : G_C1) (h7 : G_G3) (h8 : G_H7) : G_J5 := by
  refine mk_J5 ?_ ?_ ?_ ?_ ?_ ?_ ?_ ?_ (fun a l r w k _ => (RNeed_spec a l r w k).trans (Need_spec a l r w k)) <;> assumption
theorem agree_self (x : Option R) : agree x x = x := by
  unfold agree; rw [if_pos rfl]
theorem good_A0_of : G_A0 := mk_A0 fun a hp _ => by
  unfold pre_A0 at hp
  unfold spec_A0 m_A0
  cases a with
  | nil => simp only [hp, cond_true]; exact agree_self _
  | cons x l => simp only [hp, cond_true]; rfl
theorem good_A1_of : G_A1 := mk_A1 fun a hp _ => by
  unfold pre_A1 at hp
  unfold spec_A1 m_A1
  cases a with
  | nil => simp only [hp, cond_true]; exact agree_self _
  | cons x l => simp only [hp, cond_true]; rfl
theorem good_A2_of : G_A2 := mk_A2 fun a hp _ => by
  unfold pre_A2 at hp
  unfold spec_A2 m_A2
  cases a with
  | nil => simp only [hp, cond_true]; exact agree_self _
  | cons x l => simp only [hp, cond_true]; rfl
def noParams : SParams := SParams.mk (0 : Int) (0 : Int) (0 : Int) (0 : Int) (0 : Int) [] (0 : Int) (0 : Int) (SMode.mk false false false false false) false false false [] (0 : Int) (0 : Int)
theorem clone_pre {h : SHeader} (hn : h.Components.length <= 4) : pre_E9 h noParams = true := by
  unfold pre_E9
  have e1 : pre_A0 h.Components = true := room_of (by omega)
  have e2 : pre_A1 noParams.Precincts = true := by decide
  have e3 : pre_A2 noParams.Steps = true := by decide
  rw [e1, e2, e3]; rfl
theorem clone_eq {h : SHeader} (hn : h.Components.length <= 4) : m_E9 h noParams = (h, noParams) := by
  unfold m_E9
  have e1 : pre_A0 h.Components = true := room_of (by omega)
  have e2 : pre_A1 noParams.Precincts = true := by decide
  have e3 : pre_A2 noParams.Steps = true := by decide
  rw [e1, e2, e3]; rfl
theorem check_comps {h : SHeader} {p : SParams} (hc : m_F0 h p = 0) : h.Components.length <= 4 := (head_comps (check_ok hc).1).2
theorem Reduced_pre (h : SHeader) (p : SParams) (v : SView) : pre_B5 h p v = true := by
  unfold pre_B5
  by_cases hc : m_F0 h p = 0
  · have hcl := clone_pre (check_comps hc)
    unfold noParams at hcl
    simp only [hc, hcl, wrapu_nonneg, decide_true, cond_true, bne_self_eq_false, cond_false, Bool.cond_self]
  · have hne := bne_iff_ne.2 hc
    simp only [hne, cond_true]
theorem R37_Reduced_pre (h : SHeader) (p : SParams) (v : SView) : pre_F6 h p v = true := by
  unfold pre_F6 m_I1
  by_cases hc : m_F0 h p = 0
  · have hr : roomOK (0 + h.Components.length) 32 = true := room_of (by have := check_comps hc; omega)
    simp only [hc, hr, wrapu_nonneg, decide_true, cond_true, bne_self_eq_false, cond_false, Bool.cond_self]
  · have hne := bne_iff_ne.2 hc
    simp only [hne, cond_true]
theorem R37_Reduced_eq (h : SHeader) (p : SParams) (v : SView) : m_F6 h p v = m_B5 h p v := by
  unfold m_F6 m_B5 m_I1
  by_cases hc : m_F0 h p = 0
  · have hr : roomOK (0 + h.Components.length) 32 = true := room_of (by have := check_comps hc; omega)
    have hcl := clone_pre (check_comps hc)
    have hce := clone_eq (check_comps hc)
    unfold noParams at hcl hce
    simp only [hc, hr, hcl, hce, wrapu_nonneg, decide_true, cond_true, bne_self_eq_false, cond_false]
    rfl
  · have hne := bne_iff_ne.2 hc
    simp only [hne, cond_true]
theorem Reduced_ok {h : SHeader} {p : SParams} {v : SView} (hz : (m_B5 h p v).2 = 0) : m_F0 h p = 0 /\ (0 <= v.Layers /\ v.Layers <= 16) /\ 0 <= v.Drop /\ v.Drop <= p.Levels := by
  unfold m_B5 at hz
  by_cases hc : m_F0 h p = 0
  · refine ⟨hc, ?_⟩
    simp only [hc, bne_self_eq_false, cond_false] at hz
    cases hb : (bif (bif (bif decide (v.Layers < 0) then true else decide (v.Layers > 16)) then true else decide (v.Drop < 0)) then true else decide (v.Drop > p.Levels)) with
    | true => rw [hb] at hz; simp only [cond_true] at hz; exact absurd hz (by decide)
    | false =>
      have e : ∀ (a b : Bool), (bif a then true else b) = (a || b) := by intro a b; cases a <;> rfl
      simp only [e, Bool.or_eq_false_iff, decide_eq_false_iff_not] at hb
      omega
  · have hne := bne_iff_ne.2 hc
    simp only [hne, cond_true] at hz
    exact absurd hz hc
theorem Window_pre {h : SHeader} {t c : Int} {v : SView} (ht : 0 <= t /\ t < ((m_E7 h).length : Int)) (hc : 0 <= c /\ c < (h.Components.length : Int)) (hd : 0 <= v.Drop) : pre_G6 h t c v = true := by
  unfold pre_G6
  simp only [R24_Tiles_eq, inR_of ht.1 ht.2, inR_of hc.1 hc.2, decide_eq_true hd, cond_true, Bool.cond_self]
theorem Window_eq {h : SHeader} {t c : Int} {v : SView} (ht : 0 <= t /\ t < ((m_E7 h).length : Int)) (hc : 0 <= c /\ c < (h.Components.length : Int)) (hd : 0 <= v.Drop /\ v.Drop <= 12) :
    m_G6 h t c v = m_F8 (compRect (partOf h t v) (List.getD h.Components c.toNat [])) (dropD v) (dropD v) := by
  unfold m_G6
  have e : IntKind.wrap .i64 (1 * 2 ^ (min (Int.toNat v.Drop) 64)) = dropD v := by
    unfold dropD
    rw [shl_one hd.1 hd.2, shl_one' hd.1 hd.2]
  simp only [R24_Tiles_eq, inR_of ht.1 ht.2, inR_of hc.1 hc.2, decide_eq_true hd.1, cond_true, e]
  unfold partOf isWhole compRect
  cases ((v.Window.X0 == (0 : Int)) && ((v.Window.Y0 == (0 : Int)) && ((v.Window.X1 == (0 : Int)) && ((v.Window.Y1 == (0 : Int)) && true)))) <;> rfl
theorem R24_Packets_pre (h : SHeader) (p : SParams) (t : Int) : pre_F4 h p t = true := by
  unfold pre_F4
  rw [R24_ValidTile_eq, R24_Tiles_eq]
  cases he : m_D6 h p t 0 with
  | false => rfl
  | true =>
    obtain ⟨hc, ht, _⟩ := exists_iff.1 he
    obtain ⟨_, _, hn, _, _⟩ := check_ok hc
    have hL := (numB_iff hn).1
    have hp : pre_G1 h p (SRect.of (List.getD (m_E7 h) t.toNat [])) = true := by
      unfold pre_G1
      have := check_comps hc
      rw [Nat.ble_eq_true_of_le (by omega), decide_eq_true hL.2, Bool.and_self, Bool.true_and, List.all_eq_true]
      intro res hr
      have hrb := mem_rngI.1 hr
      have hb := Precinct_bd hn hrb.1 (by omega)
      rw [decide_eq_true (show 0 <= (m_B4 p res).X by omega), decide_eq_true (show 0 <= (m_B4 p res).Y by omega)]
      rfl
    simp only [inR_of ht.1 ht.2, hp, Bool.not_true, cond_false, cond_true]
theorem eqT_id (a b : SBlockID) : eqT Try.prog 8 ty_api_BlockID (SBlockID.v a) (SBlockID.v b) = some ((a.Comp == b.Comp) && ((a.Res == b.Res) && ((a.Band == b.Band) && ((a.Precinct == b.Precinct) && ((a.Index == b.Index) && (((a.Rect.X0 == b.Rect.X0) && ((a.Rect.Y0 == b.Rect.Y0) && ((a.Rect.X1 == b.Rect.X1) && ((a.Rect.Y1 == b.Rect.Y1) && true)))) && true)))))) := by kernel_rfl
theorem eqv_id (a b : SBlockID) : V.eqv (SBlockID.v a) (SBlockID.v b) = ((a.Comp == b.Comp) && ((a.Res == b.Res) && ((a.Band == b.Band) && ((a.Precinct == b.Precinct) && ((a.Index == b.Index) && ((a.Rect.X0 == b.Rect.X0) && ((a.Rect.Y0 == b.Rect.Y0) && ((a.Rect.X1 == b.Rect.X1) && ((a.Rect.Y1 == b.Rect.Y1) && true))))))))) := rfl
theorem eqT_eqv (a b : SBlockID) : eqT Try.prog 8 ty_api_BlockID (SBlockID.v a) (SBlockID.v b) = some (V.eqv (SBlockID.v a) (SBlockID.v b)) := by
  rw [eqT_id, eqv_id]
  simp only [Bool.and_true]
theorem eqv_iff {a b : SBlockID} : V.eqv (SBlockID.v a) (SBlockID.v b) = true ↔ a = b := by
  rw [eqv_id]
  obtain ⟨a1, a2, a3, a4, a5, ⟨a6, a7, a8, a9⟩⟩ := a
  obtain ⟨b1, b2, b3, b4, b5, ⟨b6, b7, b8, b9⟩⟩ := b
  simp only [Bool.and_eq_true, beq_iff_eq, and_true, SBlockID.mk.injEq, SRect.mk.injEq]
def ent (l : Rows) (i : Int) : List V := [SBlockID.v (SBlockID.of (List.getD l i.toNat [])), V.int .i64 i]
theorem ent_head (l : Rows) (i : Int) : (ent l i).headD V.undef = SBlockID.v (SBlockID.of (List.getD l i.toNat [])) := rfl
theorem keyOK_ent (l : Rows) (L : List Int) (a : SBlockID) : keyOK Try.prog ty_api_BlockID (SBlockID.v a) (L.map (ent l)) = true := by
  unfold keyOK
  rw [eqT_eqv, Option.isSome_some, Bool.true_and, List.all_eq_true]
  intro r hr
  obtain ⟨i, _, rfl⟩ := List.mem_map.1 hr
  rw [ent_head, eqT_eqv]
  exact beq_self_eq_true _
def idAt (l : Rows) (i : Int) : SBlockID := SBlockID.of (List.getD l i.toNat [])
theorem idAt_inj {l : Rows} (hd : l.Pairwise Diff) {i j : Int} (hi : 0 <= i /\ i < (l.length : Int)) (hj : 0 <= j /\ j < (l.length : Int)) (h : idAt l i = idAt l j) : i = j := by
  have h1 : i.toNat < l.length := by omega
  have h2 : j.toNat < l.length := by omega
  unfold idAt at h
  rw [List.getD_eq_getElem?_getD, List.getD_eq_getElem?_getD, List.getElem?_eq_getElem h1, List.getElem?_eq_getElem h2] at h
  have hp := List.pairwise_iff_getElem.1 hd
  rcases Nat.lt_trichotomy i.toNat j.toNat with hlt | heq | hgt
  · exact absurd h (hp _ _ h1 h2 hlt)
  · omega
  · exact absurd h.symm (hp _ _ h2 h1 hgt)
theorem eqv_ent {l : Rows} (hd : l.Pairwise Diff) {i j : Int} (hi : 0 <= i /\ i < (l.length : Int)) (hj : 0 <= j /\ j < (l.length : Int)) : V.eqv (SBlockID.v (idAt l i)) (SBlockID.v (idAt l j)) = decide (j = i) := by
  rw [Bool.eq_iff_iff, eqv_iff, decide_eq_true_eq]
  exact ⟨fun h => (idAt_inj hd hi hj h).symm, fun h => by rw [h]⟩
theorem mapFind_none {key : V} : ∀ {rows : List (List V)}, (∀ r ∈ rows, V.eqv key (r.headD V.undef) = false) -> mapFind key rows = none
  | [], _ => rfl
  | r :: rows, h => by
    unfold mapFind
    rw [h r (List.mem_cons_self ..), mapFind_none fun x hx => h x (List.mem_cons_of_mem _ hx)]
    rfl
theorem mapPut_new {key val : V} {rows : List (List V)} (h : ∀ r ∈ rows, V.eqv key (r.headD V.undef) = false) : mapPut rows key val = rows ++ [[key, val]] := by
  unfold mapPut
  rw [mapFind_none h]
theorem filter_all {α : Type} {p : α -> Bool} : ∀ {l : List α}, (∀ x ∈ l, p x = true) -> l.filter p = l
  | [], _ => rfl
  | x :: l, h => by rw [List.filter_cons_of_pos (h x (List.mem_cons_self ..)), filter_all fun y hy => h y (List.mem_cons_of_mem _ hy)]
theorem mapDel_ent {l : Rows} {key : V} {i : Int} : ∀ {L : List Int}, L.Pairwise (fun x y => x ≠ y) -> (∀ j ∈ L, V.eqv key (SBlockID.v (idAt l j)) = decide (j = i)) -> mapDel (L.map (ent l)) key = (L.filter fun j => !decide (j = i)).map (ent l)
  | [], _, _ => rfl
  | j :: L, hp, h => by
    have hp' := List.pairwise_cons.1 hp
    have hj := h j (List.mem_cons_self ..)
    have ih := mapDel_ent hp'.2 fun x hx => h x (List.mem_cons_of_mem _ hx)
    have hf : mapFind key ((j :: L).map (ent l)) = bif decide (j = i) then some 0 else (mapFind key (L.map (ent l))).map (· + 1) := by
      rw [<- hj]; rfl
    unfold mapDel at ih ⊢
    rw [hf]
    by_cases he : j = i
    · rw [decide_eq_true he]
      show L.map (ent l) = _
      rw [List.filter_cons_of_neg (by simp [he]), filter_all]
      intro x hx
      have := hp'.1 x hx
      simp only [Bool.not_eq_true', decide_eq_false_iff_not]
      omega
    · rw [decide_eq_false he, List.filter_cons_of_pos (by simp [he])]
      cases hm : mapFind key (L.map (ent l)) with
      | none =>
        rw [hm] at ih
        show (j :: L).map (ent l) = _
        rw [List.map_cons, List.map_cons, <- ih]
      | some k =>
        rw [hm] at ih
        show ((j :: L).map (ent l)).eraseIdx (k + 1) = _
        rw [List.map_cons, List.map_cons, <- ih]
        rfl
theorem pw_filter {L : List Int} (h : L.Pairwise fun x y => x ≠ y) (p : Int -> Bool) : (L.filter p).Pairwise fun x y => x ≠ y := h.sublist List.filter_sublist
theorem rngI_lt {n : Int} {j : Int} (h : j ∈ rngI 0 n) : 0 <= j /\ j < n := mem_rngI.1 h
theorem blocks_0 (tile : Int) (l : Rows) (h : SHeader) (p : SParams) (v : SView) (hd : l.Pairwise Diff) (hl : l.length <= 1099511627776) (e : Rows -> Option R) (m : Nat) (hm : ((l.length : Int) - 0).toNat + 1 <= m) :
    loop_D3_0 tile l (l.length : Int) h p v m 0 [] (fun _ z => e z) = e ((rngI 0 (l.length : Int)).map (ent l)) := by
  refine (loop_foldB (b := (l.length : Int)) (L := fun n i s => loop_D3_0 tile l (l.length : Int) h p v n i s (fun _ z => e z)) (g := fun s i => s ++ [ent l i]) (e := e) (fun i t => 0 <= i /\ t = (rngI 0 i).map (ent l)) ?_ ?_ m 0 [] ⟨Int.le_refl 0, rfl⟩ hm).trans ?_
  · intro n i t ⟨h0, hb⟩
    show step_D3_0 tile l (l.length : Int) h p v i t _ _ = _
    unfold step_D3_0
    by_cases hi : i < (l.length : Int)
    · subst hb
      simp only [decide_eq_true hi, cond_true, inR_of h0 hi, keyOK_ent, Bool.and_true]
      rw [w64 (n := i + 1) (by omega) (by omega), mapPut_new (rows := (rngI 0 i).map (ent l))]
      · rfl
      · intro r hr
        obtain ⟨j, hj, rfl⟩ := List.mem_map.1 hr
        have hj := rngI_lt hj
        rw [ent_head]
        refine (eqv_ent hd ⟨h0, hi⟩ ⟨hj.1, by omega⟩).trans ?_
        exact decide_eq_false (by omega)
    · simp only [decide_eq_false hi, cond_false]
  · intro i t ⟨h0, hb⟩ hi
    refine ⟨by omega, ?_⟩
    rw [hb, rngI_snoc (by omega), List.map_append]
    rfl
  · rw [foldl_snoc, List.nil_append]
def needAt (h : SHeader) (p : SParams) (tile d : Int) (v : SView) (part : SRect) (c : Int) : List V := [V.data SRect.sh (m_E3 (m_B2 h tile c) p.Levels (IntKind.wrap .i64 (p.Levels - v.Drop)) (m_F8 (compRect part (List.getD h.Components c.toNat [])) d d) p.Kernel)]
theorem blocks_2 (tile d : Int) (h : SHeader) (p : SParams) (v : SView) (z0 : Rows) (part : SRect) (hc : h.Components.length <= 4) (e : Rows -> Option R) (m : Nat) (hm : ((h.Components.length : Int) - 0).toNat + 1 <= m) :
    loop_D3_2 tile d h.Components (h.Components.length : Int) h p v z0 part m 0 [] (fun _ z => e z) = e ((rngI 0 (h.Components.length : Int)).map (needAt h p tile d v part)) := by
  refine (loop_foldB (b := (h.Components.length : Int)) (L := fun n i s => loop_D3_2 tile d h.Components (h.Components.length : Int) h p v z0 part n i s (fun _ z => e z)) (g := fun s i => s ++ [needAt h p tile d v part i]) (e := e) (fun i t => 0 <= i /\ t.length <= i.toNat) ?_ ?_ m 0 [] ⟨Int.le_refl 0, Nat.zero_le _⟩ hm).trans ?_
  · intro n i t ⟨h0, hb⟩
    show step_D3_2 tile d h.Components (h.Components.length : Int) h p v z0 part i t _ _ = _
    unfold step_D3_2
    by_cases hi : i < (h.Components.length : Int)
    · have hroom : roomOK (t.length + 1) 24 = true := room_of (by omega)
      simp only [decide_eq_true hi, cond_true, inR_of h0 hi, hroom]
      rw [w64 (n := i + 1) (by omega) (by omega)]
      rfl
    · simp only [decide_eq_false hi, cond_false]
  · intro i t ⟨h0, hb⟩ hi
    refine ⟨by omega, ?_⟩
    rw [List.length_append]
    show t.length + 1 <= _
    omega
  · rw [foldl_snoc, List.nil_append]
theorem blocks_4 (l need : Rows) (ok : Int -> Bool) (hd : l.Pairwise Diff) (hl : l.length <= 1099511627776)
    (hr : ∀ i, 0 <= i -> i < (l.length : Int) -> inR (idAt l i).Comp need.length = true /\ inR (idAt l i).Band (V.toRows (List.getD (List.getD need (Int.toNat (idAt l i).Comp) []) 0 V.undef)).length = true)
    (hok : ∀ i, 0 <= i -> i < (l.length : Int) -> m_H1 (m_C6 (idAt l i).Rect (SRect.of (List.getD (V.toRows (List.getD (List.getD need (Int.toNat (idAt l i).Comp) []) 0 V.undef)) (Int.toNat (idAt l i).Band) []))) = !ok i)
    (e : Rows -> Option R) (m : Nat) (hm : ((l.length : Int) - 0).toNat + 1 <= m) :
    loop_D3_4 l (l.length : Int) need m 0 ((rngI 0 (l.length : Int)).map (ent l)) (fun _ z => e z) = e (((rngI 0 (l.length : Int)).filter ok).map (ent l)) := by
  have key : ∀ (n : Nat) (i : Int), 0 <= i -> i <= (l.length : Int) -> ((l.length : Int) - i).toNat + 1 <= n ->
      loop_D3_4 l (l.length : Int) need n i (((rngI 0 (l.length : Int)).filter fun j => decide (i <= j) || ok j).map (ent l)) (fun _ z => e z) = e (((rngI 0 (l.length : Int)).filter ok).map (ent l)) := by
    intro n
    induction n with
    | zero => intro i _ _ hn; omega
    | succ n ih =>
      intro i h0 h1 hn
      show step_D3_4 l (l.length : Int) need i _ (fun i s => loop_D3_4 l (l.length : Int) need n i s (fun _ z => e z)) (fun _ z => e z) = _
      unfold step_D3_4
      by_cases hi : i < (l.length : Int)
      · obtain ⟨r1, r2⟩ := hr i h0 hi
        have hk := hok i h0 hi
        unfold idAt at r1 r2 hk
        simp only [decide_eq_true hi, cond_true, inR_of h0 hi, r1, r2, hk, keyOK_ent, Bool.and_true]
        rw [w64 (n := i + 1) (by omega) (by omega)]
        have ihn := ih (i + 1) (by omega) (by omega) (by omega)
        cases hoki : ok i with
        | true =>
          simp only [Bool.not_true, cond_false]
          rw [<- ihn]
          congr 2
          apply List.filter_congr
          intro j hj
          by_cases hji : j = i
          · subst hji
            rw [hoki, Bool.or_true, Bool.or_true]
          · congr 1
            rw [decide_eq_decide]
            omega
        | false =>
          simp only [Bool.not_false, cond_true]
          rw [mapDel_ent (i := i) (pw_filter (rngI_nodup _ _) _) (fun j hj => by
            have hj := rngI_lt (List.mem_filter.1 hj).1
            exact eqv_ent hd ⟨h0, hi⟩ hj), <- ihn, List.filter_filter]
          congr 2
          apply List.filter_congr
          intro j hj
          by_cases hji : j = i
          · subst hji
            have d1 : ¬ (j + 1 <= j) := by omega
            rw [hoki, decide_eq_false d1, decide_eq_true rfl]
            rfl
          · rw [decide_eq_false hji, Bool.not_false, Bool.true_and]
            congr 1
            rw [decide_eq_decide]
            omega
      · have hie : i = (l.length : Int) := by omega
        simp only [decide_eq_false hi, cond_false]
        congr 2
        apply List.filter_congr
        intro j hj
        have := rngI_lt hj
        have d1 : ¬ i <= j := by omega
        rw [decide_eq_false d1, Bool.false_or]
  have h0 := key m 0 (Int.le_refl 0) (by omega) hm
  rw [filter_all (l := rngI 0 (l.length : Int))] at h0
  · exact h0
  · intro j hj
    rw [decide_eq_true (rngI_lt hj).1, Bool.true_or]
theorem getD_rng {α : Type} (f : Int -> α) (n c : Int) (d : α) (h0 : 0 <= c) (h1 : c < n) : List.getD ((rngI 0 n).map f) c.toNat d = f c := by
  unfold rngI
  have : c.toNat < (n - 0).toNat := by omega
  rw [List.map_map, List.getD_eq_getElem?_getD, List.getElem?_map, List.getElem?_range this]
  show f (0 + (c.toNat : Int)) = f c
  congr 1
  omega
theorem All_mem {h : SHeader} {p : SParams} {tile : Int} {w : List V} (hw : w ∈ m_G4 h p tile) : (0 <= (SBlockID.of w).Comp /\ (SBlockID.of w).Comp < (h.Components.length : Int)) /\ 0 <= (SBlockID.of w).Band /\ (SBlockID.of w).Band <= 3 * p.Levels := by
  unfold m_G4 at hw
  cases he : m_D6 h p tile 0 with
  | false => rw [he] at hw; exact absurd hw List.not_mem_nil
  | true =>
    rw [he, cond_true] at hw
    obtain ⟨hc, _, _⟩ := exists_iff.1 he
    obtain ⟨_, _, hn, _, _⟩ := check_ok hc
    have hL := (numB_iff hn).1
    obtain ⟨comp, hcomp, hw⟩ := List.mem_flatMap.1 hw
    obtain ⟨res, hres, hw⟩ := List.mem_flatMap.1 hw
    obtain ⟨k, _, hw⟩ := List.mem_flatMap.1 hw
    have hrb := rngI_lt hres
    have hcb := rngI_lt hcomp
    unfold m_B7 m_A8 at hw
    obtain ⟨b, hb, hw⟩ := List.mem_flatMap.1 hw
    obtain ⟨b0, b1, _⟩ := Indices_mem hL hrb.1 (show res <= p.Levels by omega) hb
    obtain ⟨m1, _, m3, _⟩ := idRows_mem hw
    rw [m1, m3]
    exact ⟨hcb, b0, b1⟩
theorem All_at {h : SHeader} {p : SParams} {tile i : Int} (h0 : 0 <= i) (h1 : i < ((m_G4 h p tile).length : Int)) : (0 <= (idAt (m_G4 h p tile) i).Comp /\ (idAt (m_G4 h p tile) i).Comp < (h.Components.length : Int)) /\ 0 <= (idAt (m_G4 h p tile) i).Band /\ (idAt (m_G4 h p tile) i).Band <= 3 * p.Levels := by
  have hi : i.toNat < (m_G4 h p tile).length := by omega
  unfold idAt
  rw [List.getD_eq_getElem?_getD, List.getElem?_eq_getElem hi]
  exact All_mem (List.getElem_mem hi)
theorem Component_valid (h : SHeader) (t c : Int) : m_H3 (m_B2 h t c) = true := by
  have hc : ∀ (b : Bool) (x y : SRect), m_H3 x = true -> m_H3 y = true -> m_H3 (bif b then x else y) = true := by
    intro b x y hx hy
    cases b
    · exact hy
    · exact hx
  have hz : m_H3 ⟨0, 0, 0, 0⟩ = true := zero_valid
  have hdef : m_H3 (default : SRect) = true := by decide
  unfold m_B2
  simp only []
  repeat' (first | with_reducible exact hz | with_reducible exact hdef | with_reducible exact Reduce_valid _ _ _ | with_reducible refine hc _ _ _ ?_ ?_)
theorem Need_length (a : SRect) (l res : Int) (win : SRect) (k : Int) (h : needOK a l res k = true) : R4 (3 * l + 1).toNat (m_E3 a l res win k) := by
  unfold m_E3
  rw [h, cond_true]
  simp only []
  cases he : m_H1 (m_C6 win (m_A6 a l res)) with
  | true => exact R4_zero _
  | false => exact ((needN_ok a l (m_F3 k) res.toNat _ _ _ (R4_zero (3 * l + 1).toNat) (with_res _ _ _ _)).1).set _ _
theorem kind_margin {p : SParams} (h : kindB p = true) : m_F3 p.Kernel ≠ 0 := by
  unfold kindB at h
  simp only [Bool.and_eq_true] at h
  have hk := inB_iff.1 h.1.1
  have : p.Kernel = 1 \/ p.Kernel = 2 \/ p.Kernel = 3 := by omega
  rcases this with e | e | e <;> rw [e] <;> decide
theorem All_length {h : SHeader} {p : SParams} {tile : Int} : (m_G4 h p tile).length <= 1099511627776 := by
  cases he : m_D6 h p tile 0 with
  | false => unfold m_G4; rw [he]; exact Nat.zero_le _
  | true =>
    obtain ⟨hc, _, _⟩ := exists_iff.1 he
    obtain ⟨hh, _, hn, _, _⟩ := check_ok hc
    have hL := (numB_iff hn).1
    have h4 := head_comps hh
    rw [<- RAll_lists he]
    have := flatMap_rng_le (cRows h p tile) 77309411328 0 (h.Components.length : Int) fun i => cRows_length h hL tile i
    have h5 : ((h.Components.length : Int) - 0).toNat <= 4 := by omega
    have := Nat.mul_le_mul_right 77309411328 h5
    omega
theorem blocks_law {h : SHeader} {p : SParams} {tile : Int} {v : SView} (he : m_D6 h p tile 0 = true) (hd : 0 <= v.Drop /\ v.Drop <= p.Levels) {i : Int} (h0 : 0 <= i) (h1 : i < ((m_G4 h p tile).length : Int)) :
    needOK (m_B2 h tile (idAt (m_G4 h p tile) i).Comp) p.Levels (IntKind.wrap .i64 (p.Levels - v.Drop)) p.Kernel = true := by
  obtain ⟨hc, _, _⟩ := exists_iff.1 he
  obtain ⟨_, hk, hn, _, _⟩ := check_ok hc
  have hL := (numB_iff hn).1
  rw [w64 (n := p.Levels - v.Drop) (by omega) (by omega)]
  exact needOK_iff.2 ⟨Component_valid _ _ _, hL, by omega, kind_margin hk⟩
theorem blocks_range {h : SHeader} {p : SParams} {tile : Int} {v : SView} (he : m_D6 h p tile 0 = true) (hd : 0 <= v.Drop /\ v.Drop <= p.Levels) {i : Int} (h0 : 0 <= i) (h1 : i < ((m_G4 h p tile).length : Int)) :
    inR (idAt (m_G4 h p tile) i).Comp ((rngI 0 (h.Components.length : Int)).map (needAt h p tile (dropD v) v (partOf h tile v))).length = true /\
    V.toRows (List.getD (List.getD ((rngI 0 (h.Components.length : Int)).map (needAt h p tile (dropD v) v (partOf h tile v))) (Int.toNat (idAt (m_G4 h p tile) i).Comp) []) 0 V.undef) = needOf h p tile v (idAt (m_G4 h p tile) i).Comp /\
    inR (idAt (m_G4 h p tile) i).Band (needOf h p tile v (idAt (m_G4 h p tile) i).Comp).length = true := by
  obtain ⟨hcomp, hb0, hb1⟩ := All_at h0 h1
  refine ⟨inR_of hcomp.1 (by rw [List.length_map, length_rngI]; omega), ?_, inR_of hb0 ?_⟩
  · rw [getD_rng _ _ _ _ hcomp.1 hcomp.2]
    rfl
  · unfold needOf
    have := (Need_length _ _ _ (m_F8 (compRect (partOf h tile v) (List.getD h.Components (idAt (m_G4 h p tile) i).Comp.toNat [])) (dropD v) (dropD v)) _ (blocks_law he hd h0 h1)).1
    omega
theorem blocks_spec (h : SHeader) (p : SParams) (tile : Int) (v : SView) (hp : pre_D3 h p tile v = true) : spec_D3 h p tile v some = some (V.mdat (m_D3 h p tile v)) := by
  unfold pre_D3 at hp
  rw [Bool.and_eq_true, Bool.and_eq_true, decide_eq_true_eq, decide_eq_true_eq] at hp
  obtain ⟨⟨he, hd0⟩, hd1⟩ := hp
  obtain ⟨hc, ht, _⟩ := exists_iff.1 he
  have h4 := check_comps hc
  unfold spec_D3
  refine (blocks_0 tile (m_G4 h p tile) h p v (All_diff h p tile) All_length (fun z => _) _ (Nat.le_refl _)).trans ?_
  have hlast := blocks_4 (R := V) (m_G4 h p tile) ((rngI 0 (h.Components.length : Int)).map (needAt h p tile (dropD v) v (partOf h tile v))) (fun i => blockNeeded h p tile v (idAt (m_G4 h p tile) i)) (All_diff h p tile) All_length
    (fun i h0 h1 => by
      obtain ⟨r1, r2, r3⟩ := blocks_range he ⟨hd0, hd1⟩ h0 h1
      exact ⟨r1, by rw [r2]; exact r3⟩)
    (fun i h0 h1 => by
      obtain ⟨r1, r2, r3⟩ := blocks_range he ⟨hd0, hd1⟩ h0 h1
      rw [r2]
      unfold blockNeeded
      rw [Bool.not_not])
    (fun z => some (V.mdat z)) _ (Nat.le_refl _)
  have hlast : loop_D3_4 (m_G4 h p tile) ((m_G4 h p tile).length : Int) ((rngI 0 (h.Components.length : Int)).map (needAt h p tile (dropD v) v (partOf h tile v))) (((m_G4 h p tile).length : Int) - 0).toNat.succ 0 ((rngI 0 ((m_G4 h p tile).length : Int)).map (ent (m_G4 h p tile))) (fun _ z => some (V.mdat z)) = some (V.mdat (m_D3 h p tile v)) := hlast
  simp only [inR_of ht.1 ht.2, cond_true, wrapu_nonneg, decide_true]
  cases hw : ((v.Window.X0 == (0 : Int)) && ((v.Window.Y0 == (0 : Int)) && ((v.Window.X1 == (0 : Int)) && ((v.Window.Y1 == (0 : Int)) && true)))) with
  | true =>
    have hpart : partOf h tile v = SRect.of (List.getD (m_E7 h) tile.toNat []) := by
      unfold partOf isWhole; rw [hw]; rfl
    rw [hpart] at hlast
    simp only [Bool.not_true, cond_false]
    exact (blocks_2 tile (dropD v) h p v _ _ h4 (fun z => _) _ (Nat.le_refl _)).trans hlast
  | false =>
    have hpart : partOf h tile v = m_C6 (SRect.of (List.getD (m_E7 h) tile.toNat [])) v.Window := by
      unfold partOf isWhole; rw [hw]; rfl
    rw [hpart] at hlast
    simp only [Bool.not_false, cond_true]
    exact (blocks_2 tile (dropD v) h p v _ _ h4 (fun z => _) _ (Nat.le_refl _)).trans hlast
theorem good_D3_of (h1 : G_G4) (h2 : G_E7) (h3 : G_H1) (h4 : G_C6) (h5 : G_F8) (h6 : G_E3) (h7 : G_B2) : G_D3 := by
  refine mk_D3 ?_ ?_ ?_ ?_ ?_ ?_ ?_ (fun h p t v hp _ => blocks_spec h p t v hp) <;> assumption
theorem left_less {n i : Nat} {seen : List Nat} (h : i ∈ leftI n seen) : (leftI n (i :: seen)).length < (leftI n seen).length := by
  have e : leftI n (i :: seen) = (leftI n seen).filter fun j => !(j == i) := by
    unfold leftI
    rw [List.filter_filter]
    apply List.filter_congr
    intro j _
    rw [List.contains_cons, Bool.not_or]
  rw [e]
  refine List.length_filter_lt_length_iff_exists.2 ⟨i, h, ?_⟩
  simp
theorem left_mem {n i : Nat} {seen : List Nat} : i ∈ leftI n seen ↔ i < n /\ ¬ i ∈ seen := by
  unfold leftI
  rw [List.mem_filter, List.mem_range]
  simp
def marks (n : Int) (K : List Int) (seen : List Nat) : Rows := (rngI 0 n).map fun j => [V.bool (seen.any fun i => decide (List.getD K i (-1) = j))]
theorem marks_length (n : Int) (K : List Int) (seen : List Nat) : (marks n K seen).length = n.toNat := by
  unfold marks
  rw [List.length_map, length_rngI]
  omega
theorem marks_set (n : Int) (K : List Int) (seen : List Nat) (i : Nat) (h0 : 0 <= List.getD K i (-1)) : (marks n K seen).set (List.getD K i (-1)).toNat [V.bool true] = marks n K (i :: seen) := by
  apply List.ext_getElem
  · rw [List.length_set, marks_length, marks_length]
  · intro m h1 h2
    rw [List.getElem_set]
    have hm : m < n.toNat := by rw [marks_length] at h2; exact h2
    unfold marks rngI
    simp only [List.getElem_map, List.getElem_range, List.any_cons]
    by_cases he : (List.getD K i (-1)).toNat = m
    · rw [if_pos he, decide_eq_true (by omega), Bool.true_or]
    · rw [if_neg he, decide_eq_false (by omega), Bool.false_or]
theorem marks_at (n : Int) (K : List Int) (seen : List Nat) (k : Nat) (hk : (k : Int) < n) : ∃ b, List.getD (marks n K seen) k [] = [V.bool b] := by
  have h1 : k < (marks n K seen).length := by rw [marks_length]; omega
  rw [List.getD_eq_getElem?_getD, List.getElem?_eq_getElem h1]
  obtain ⟨j, _, hj⟩ := List.mem_map.1 (show (marks n K seen)[k] ∈ (rngI 0 n).map _ from List.getElem_mem h1)
  exact ⟨_, hj.symm⟩
theorem marks_nil (n : Int) (K : List Int) : marks n K [] = List.replicate n.toNat [V.bool false] := by
  unfold marks
  rw [List.eq_replicate_iff]
  refine ⟨by rw [List.length_map, length_rngI]; omega, fun b hb => ?_⟩
  obtain ⟨j, _, rfl⟩ := List.mem_map.1 hb
  rfl
theorem id_c (a : SBlockID) : OR.c (elemV Try.prog ty_api_BlockID (SBlockID.v a)) = true := by kernel_rfl
theorem int_c (x : Int) : OR.c (elemV Try.prog ty_int (V.int .i64 x)) = true := by kernel_rfl
theorem Needed_loop (l : Rows) (n : Int) (ok : Int -> Bool) (e : Rows -> R) (K : List Int) (hK : K = (rngI 0 n).filter ok) : ∀ (m : Nat) (seen : List Nat), (leftI K.length seen).length + 1 <= m ->
    loop_D4_0 (K.map (ent l)) m (marks n K seen) seen (fun z _ => some (e z)) = some (e ((rngI 0 n).map fun j => [V.bool (ok j)])) := by
  have hKm : ∀ j, j ∈ K ↔ (0 <= j /\ j < n) /\ ok j = true := by
    intro j
    rw [hK, List.mem_filter, mem_rngI]
  have hKat : ∀ i, i < K.length -> List.getD K i (-1) ∈ K := by
    intro i hi
    rw [List.getD_eq_getElem?_getD, List.getElem?_eq_getElem hi]
    exact List.getElem_mem hi
  intro m
  induction m with
  | zero => intro seen hm; omega
  | succ m ih =>
    intro seen hm
    show step_D4_0 (K.map (ent l)) (marks n K seen) seen _ _ = _
    unfold step_D4_0
    rw [List.length_map]
    cases hl : (leftI K.length seen).isEmpty with
    | true =>
      rw [cond_true]
      show some (e (marks n K seen)) = _
      refine congrArg (fun z => some (e z)) ?_
      unfold marks
      apply List.map_congr_left
      intro j hj
      have hjb := rngI_lt hj
      congr 2
      rw [Bool.eq_iff_iff, List.any_eq_true]
      constructor
      · rintro ⟨i, hi, hd⟩
        have hd := of_decide_eq_true hd
        by_cases hik : i < K.length
        · have := hKat i hik
          rw [hd] at this
          exact ((hKm j).1 this).2
        · rw [List.getD_eq_getElem?_getD, List.getElem?_eq_none (by omega)] at hd
          have : (-1 : Int) = j := hd
          omega
      · intro hok
        obtain ⟨i, hi, he⟩ := List.getElem_of_mem ((hKm j).2 ⟨hjb, hok⟩)
        refine ⟨i, ?_, decide_eq_true ?_⟩
        · apply Decidable.byContradiction
          intro hn
          have : i ∈ leftI K.length seen := left_mem.2 ⟨hi, hn⟩
          rw [List.isEmpty_iff.1 hl] at this
          exact absurd this List.not_mem_nil
        · rw [List.getD_eq_getElem?_getD, List.getElem?_eq_getElem hi]
          exact he
    | false =>
      rw [cond_false]
      refine anyOf_eq (fun h => ?_) fun i hi => ?_
      · rw [h] at hl; cases hl
      · have hik := (left_mem.1 hi).1
        have hkm := (hKm _).1 (hKat i hik)
        have hrow : List.getD (K.map (ent l)) i [] = ent l (List.getD K i (-1)) := by
          rw [List.getD_eq_getElem?_getD, List.getElem?_map, List.getD_eq_getElem?_getD, List.getElem?_eq_getElem hik]
          rfl
        have hb : Nat.blt i K.length = true := by
          rw [Nat.blt_eq]; exact hik
        have h1 : OR.c (elemV Try.prog ty_api_BlockID (List.getD (ent l (List.getD K i (-1))) 0 V.undef)) = true := id_c _
        have h2 : OR.c (elemV Try.prog ty_int (List.getD (ent l (List.getD K i (-1))) 1 V.undef)) = true := int_c _
        rw [hrow, h1, h2, hb]
        have hx : V.toInt (List.getD (V.cells (List.getD (ent l (List.getD K i (-1))) 1 V.undef)) 0 V.undef) = List.getD K i (-1) := rfl
        simp only [hx, Bool.and_self, cond_true]
        obtain ⟨b, hbm⟩ := marks_at n K seen (List.getD K i (-1)).toNat (by omega)
        rw [inR_of hkm.1.1 (by rw [marks_length]; omega), cond_true, hbm]
        show loop_D4_0 (K.map (ent l)) m ((marks n K seen).set (List.getD K i (-1)).toNat [V.bool true]) (i :: seen) (fun z _ => some (e z)) = _
        rw [marks_set n K seen i hkm.1.1]
        have := left_less hi
        exact ih (i :: seen) (by omega)
theorem Needed_spec (h : SHeader) (p : SParams) (tile : Int) (v : SView) : spec_D4 h p tile v some = some (V.tup [V.data [.bool] (m_D4 h p tile v).1, V.int .i64 (m_D4 h p tile v).2]) := by
  unfold spec_D4 m_D4
  rw [Reduced_pre, cond_true]
  by_cases hz : (m_B5 h p v).2 = 0
  · have hb : ((m_B5 h p v).2 != 0) = false := by rw [hz]; rfl
    simp only [hb, cond_false]
    by_cases h1 : tile < 0
    · simp only [decide_eq_true h1]; rfl
    · by_cases h2 : tile >= ((m_E7 h).length : Int)
      · simp only [decide_eq_false h1, decide_eq_true h2]; rfl
      · obtain ⟨hc, _, hd⟩ := Reduced_ok hz
        have h4 := head_comps (check_ok hc).1
        have he : m_D6 h p tile 0 = true := exists_iff.2 ⟨hc, ⟨by omega, by omega⟩, by omega, by omega⟩
        have hpre : pre_D3 h p tile v = true := by
          unfold pre_D3
          rw [he, decide_eq_true hd.1, decide_eq_true hd.2]
          rfl
        have hlen := All_length (h := h) (p := p) (tile := tile)
        have b1 : (0 : Int) <= ((m_G4 h p tile).length : Int) := by omega
        have b2 : ((m_G4 h p tile).length : Int) <= ((m_G4 h p tile).length : Int) := Int.le_refl _
        have b3 : ((m_G4 h p tile).length : Int) * 1 <= 140737488355328 := by omega
        have b4 : ((m_G4 h p tile).length : Int) <= 140737488355328 := by omega
        simp only [decide_eq_false h1, decide_eq_false h2, decide_eq_true b1, decide_eq_true b2, decide_eq_true b3, decide_eq_true b4, hpre, Bool.and_self, Bool.or_self, cond_true, cond_false, beq_self_eq_true]
        have key := Needed_loop (R := V) (m_G4 h p tile) ((m_G4 h p tile).length : Int) (fun i => blockNeeded h p tile v (SBlockID.of (List.getD (m_G4 h p tile) i.toNat []))) (fun z => V.tup [V.data [.bool] z, V.int .i64 0]) _ rfl _ [] (Nat.le_refl _)
        rw [marks_nil, <- List.length_map (ent (m_G4 h p tile))] at key
        refine key.trans ?_
        rw [rng_rows (fun w => [V.bool (blockNeeded h p tile v (SBlockID.of w))])]
  · have hb := bne_iff_ne.2 hz
    simp only [hb, cond_true]
theorem good_D4_of (h1 : G_G4) (h2 : G_B5) (h3 : G_E7) (h4 : G_D3) : G_D4 := by
  refine mk_D4 ?_ ?_ ?_ ?_ (fun h p t v _ => Needed_spec h p t v) <;> assumption
theorem RNeeded_0 (tile : Int) (h : SHeader) (p : SParams) (v : SView) (hc : h.Components.length <= 4) (ht : 0 <= tile /\ tile < ((m_E7 h).length : Int)) (hd : 0 <= v.Drop /\ v.Drop <= 12) (e : Rows -> Option R) (m : Nat) (hm : ((h.Components.length : Int) - 0).toNat + 1 <= m) :
    loop_H0_0 tile h p v m 0 [] (fun _ z => e z) = e ((rngI 0 (h.Components.length : Int)).map (needAt h p tile (dropD v) v (partOf h tile v))) := by
  refine (loop_foldB (b := (h.Components.length : Int)) (L := fun n i s => loop_H0_0 tile h p v n i s (fun _ z => e z)) (g := fun s i => s ++ [needAt h p tile (dropD v) v (partOf h tile v) i]) (e := e) (fun i t => 0 <= i /\ t.length <= i.toNat) ?_ ?_ m 0 [] ⟨Int.le_refl 0, Nat.zero_le _⟩ hm).trans ?_
  · intro n i t ⟨h0, hb⟩
    show step_H0_0 tile h p v i t _ _ = _
    unfold step_H0_0
    by_cases hi : i < (h.Components.length : Int)
    · have hroom : roomOK (t.length + 1) 24 = true := room_of (by omega)
      simp only [decide_eq_true hi, cond_true, Window_pre ht ⟨h0, hi⟩ hd.1, Window_eq ht ⟨h0, hi⟩ hd, hroom, R24_Component_eq]
      rw [w64 (n := i + 1) (by omega) (by omega)]
      rfl
    · simp only [decide_eq_false hi, cond_false]
  · intro i t ⟨h0, hb⟩ hi
    refine ⟨by omega, ?_⟩
    rw [List.length_append]
    show t.length + 1 <= _
    omega
  · rw [foldl_snoc, List.nil_append]
theorem RNeeded_2 (l need : Rows) (ok : SBlockID -> Bool) (hl : l.length <= 1099511627776)
    (hr : ∀ i, 0 <= i -> i < (l.length : Int) -> inR (idAt l i).Comp need.length = true /\ inR (idAt l i).Band (V.toRows (List.getD (List.getD need (Int.toNat (idAt l i).Comp) []) 0 V.undef)).length = true)
    (hok : ∀ i, 0 <= i -> i < (l.length : Int) -> m_H1 (m_C6 (idAt l i).Rect (SRect.of (List.getD (V.toRows (List.getD (List.getD need (Int.toNat (idAt l i).Comp) []) 0 V.undef)) (Int.toNat (idAt l i).Band) []))) = !ok (idAt l i))
    (e : Rows -> Option R) (m : Nat) (hm : ((l.length : Int) - 0).toNat + 1 <= m) :
    loop_H0_2 l need m 0 [] (fun _ z => e z) = e (l.map fun w => [V.bool (ok (SBlockID.of w))]) := by
  refine (loop_foldB (b := (l.length : Int)) (L := fun n i s => loop_H0_2 l need n i s (fun _ z => e z)) (g := fun s i => s ++ [[V.bool (ok (idAt l i))]]) (e := e) (fun i t => 0 <= i /\ t.length <= i.toNat) ?_ ?_ m 0 [] ⟨Int.le_refl 0, Nat.zero_le _⟩ hm).trans ?_
  · intro n i t ⟨h0, hb⟩
    show step_H0_2 l need i t _ _ = _
    unfold step_H0_2
    by_cases hi : i < (l.length : Int)
    · have hroom : roomOK (t.length + 1) 1 = true := room_of (by omega)
      obtain ⟨r1, r2⟩ := hr i h0 hi
      have hk := hok i h0 hi
      have r1' : inR (V.toInt (List.getD (List.getD l i.toNat []) 0 V.undef)) need.length = true := r1
      have r2' : inR (V.toInt (List.getD (List.getD l i.toNat []) 2 V.undef)) (V.toRows (List.getD (List.getD need (Int.toNat (V.toInt (List.getD (List.getD l i.toNat []) 0 V.undef))) []) 0 V.undef)).length = true := r2
      have hk' : m_H8 (m_D9 ⟨V.toInt (List.getD (List.getD l i.toNat []) 5 V.undef), V.toInt (List.getD (List.getD l i.toNat []) 6 V.undef), V.toInt (List.getD (List.getD l i.toNat []) 7 V.undef), V.toInt (List.getD (List.getD l i.toNat []) 8 V.undef)⟩ (SRect.of (List.getD (V.toRows (List.getD (List.getD need (Int.toNat (V.toInt (List.getD (List.getD l i.toNat []) 0 V.undef))) []) 0 V.undef)) (Int.toNat (V.toInt (List.getD (List.getD l i.toNat []) 2 V.undef))) []))) = !ok (idAt l i) := hk
      simp only [decide_eq_true hi, cond_true, inR_of h0 hi, r1', r2', hk', hroom, Bool.not_not]
      rw [w64 (n := i + 1) (by omega) (by omega)]
    · simp only [decide_eq_false hi, cond_false]
  · intro i t ⟨h0, hb⟩ hi
    refine ⟨by omega, ?_⟩
    rw [List.length_append]
    show t.length + 1 <= _
    omega
  · rw [foldl_snoc, List.nil_append]
    exact congrArg e (rng_rows (fun w => [V.bool (ok (SBlockID.of w))]) l)
theorem RNeeded_spec (h : SHeader) (p : SParams) (tile : Int) (v : SView) : spec_H0 h p tile v some = some (V.tup [V.data [.bool] (m_D4 h p tile v).1, V.int .i64 (m_D4 h p tile v).2]) := by
  unfold spec_H0 m_D4
  rw [R37_Reduced_pre, R37_Reduced_eq, R24_Tiles_eq, cond_true]
  by_cases hz : (m_B5 h p v).2 = 0
  · have hb : ((m_B5 h p v).2 != 0) = false := by rw [hz]; rfl
    simp only [hb, cond_false]
    by_cases h1 : tile < 0
    · simp only [decide_eq_true h1]; rfl
    · by_cases h2 : tile >= ((m_E7 h).length : Int)
      · simp only [decide_eq_false h1, decide_eq_true h2]; rfl
      · obtain ⟨hc, _, hd⟩ := Reduced_ok hz
        have h4 := head_comps (check_ok hc).1
        have hL := (numB_iff (check_ok hc).2.2.1).1
        have he : m_D6 h p tile 0 = true := exists_iff.2 ⟨hc, ⟨by omega, by omega⟩, by omega, by omega⟩
        simp only [decide_eq_false h1, decide_eq_false h2, Bool.or_self, cond_true, cond_false, beq_self_eq_true]
        refine (RNeeded_0 tile h p v h4.2 ⟨by omega, by omega⟩ ⟨hd.1, by omega⟩ (fun z => loop_H0_2 (m_G4 h p tile) z (fuel_H0_2 (m_G4 h p tile) 0 z []) 0 [] (fun _ z => some (V.tup [V.data [.bool] z, V.int .i64 0]))) _ (Nat.le_refl _)).trans ?_
        exact RNeeded_2 (m_G4 h p tile) ((rngI 0 (h.Components.length : Int)).map (needAt h p tile (dropD v) v (partOf h tile v))) (blockNeeded h p tile v) All_length
          (fun i h0 h1 => by
            obtain ⟨r1, r2, r3⟩ := blocks_range he hd h0 h1
            exact ⟨r1, by rw [r2]; exact r3⟩)
          (fun i h0 h1 => by
            obtain ⟨r1, r2, r3⟩ := blocks_range he hd h0 h1
            rw [r2]
            unfold blockNeeded
            rw [Bool.not_not])
          (fun z => some (V.tup [V.data [.bool] z, V.int .i64 0])) _ (Nat.le_refl _)
  · have hb := bne_iff_ne.2 hz
    simp only [hb, cond_true]
theorem good_H0_of (h1 : G_I2) (h2 : G_F6) (h3 : G_J5) (h4 : G_D7) (h5 : G_G6) (h6 : G_J8) (h7 : G_H8) (h8 : G_D9) : G_H0 := by
  refine mk_H0 ?_ ?_ ?_ ?_ ?_ ?_ ?_ ?_ (fun h p t v _ => RNeeded_spec h p t v) <;> assumption
theorem foldl_filter {α β : Type} (p : α -> Bool) (f : α -> β) : ∀ (l : List α) (s : List β), l.foldl (fun s x => bif p x then s ++ [f x] else s) s = s ++ (l.filter p).map f
  | [], s => by simp
  | x :: l, s => by
    rw [List.foldl_cons, foldl_filter p f l]
    cases h : p x with
    | true => rw [List.filter_cons_of_pos h, List.map_cons, cond_true, List.append_assoc]; rfl
    | false => rw [List.filter_cons_of_neg (by simp [h]), cond_false]
theorem tiles_length (h : SHeader) : (m_E7 h).length <= 16777216 := by
  unfold m_E7
  simp only []
  cases (m_C9 h != 0) with
  | true => exact Nat.zero_le _
  | false => exact Cells_length _ _ _
def keepT (l : Rows) (w : Bool) (v : SView) (i : Int) : Bool := w || !m_H1 (m_C6 (SRect.of (List.getD l i.toNat [])) v.Window)
theorem Tiles_0 (w : Bool) (l : Rows) (v : SView) (hl : l.length <= 16777216) (e : Rows -> Option R) (m : Nat) (hm : ((l.length : Int) - 0).toNat + 1 <= m) :
    loop_E1_0 w l (l.length : Int) v m 0 [] (fun _ z => e z) = e (((rngI 0 (l.length : Int)).filter (keepT l w v)).map fun i => [V.int .i64 i]) := by
  refine (loop_foldB (b := (l.length : Int)) (L := fun n i s => loop_E1_0 w l (l.length : Int) v n i s (fun _ z => e z)) (g := fun s i => bif keepT l w v i then s ++ [[V.int .i64 i]] else s) (e := e) (fun i t => 0 <= i /\ t.length <= i.toNat) ?_ ?_ m 0 [] ⟨Int.le_refl 0, Nat.zero_le _⟩ hm).trans ?_
  · intro n i t ⟨h0, hb⟩
    show step_E1_0 w l (l.length : Int) v i t _ _ = _
    unfold step_E1_0 keepT
    by_cases hi : i < (l.length : Int)
    · have hroom : roomOK (t.length + 1) 8 = true := room_of (by omega)
      simp only [decide_eq_true hi, cond_true, inR_of h0 hi, hroom]
      rw [w64 (n := i + 1) (by omega) (by omega)]
      cases w with
      | true => rfl
      | false =>
        cases m_H1 (m_C6 (SRect.of (List.getD l i.toNat [])) v.Window) <;> rfl
    · simp only [decide_eq_false hi, cond_false]
  · intro i t ⟨h0, hb⟩ hi
    refine ⟨by omega, ?_⟩
    show (bif keepT l w v i then t ++ [[V.int .i64 i]] else t).length <= _
    cases keepT l w v i with
    | true =>
      rw [cond_true, List.length_append]
      show t.length + 1 <= _
      omega
    | false => rw [cond_false]; omega
  · rw [foldl_filter (keepT l w v) (fun i => [V.int .i64 i]), List.nil_append]
theorem Tiles_spec (h : SHeader) (v : SView) : spec_E1 h v some = some (V.data [.int .i64] (m_E1 h v)) := by
  unfold spec_E1 m_E1
  by_cases hh : m_C9 h = 0
  · have hb : (m_C9 h != 0) = false := by rw [hh]; rfl
    have hb' : (m_C9 h == 0) = true := by rw [hh]; rfl
    have key := fun w => Tiles_0 (R := V) w (m_E7 h) v (tiles_length h) (fun z => some (V.data [.int .i64] z)) _ (Nat.le_refl _)
    simp only [hb, hb', Bool.true_and]
    show (bif ((!isWhole v.Window) == true) then _ else _) = _
    cases hw : isWhole v.Window with
    | true =>
      simp only [Bool.true_or, cond_true]
      exact key (isWhole v.Window) |>.trans (by rw [hw]; rfl)
    | false =>
      cases hv : m_H3 v.Window with
      | false => rfl
      | true =>
        simp only [Bool.or_true, cond_true]
        exact key (isWhole v.Window) |>.trans (by rw [hw]; rfl)
  · have hb := bne_iff_ne.2 hh
    have hb' := beq_eq_false_iff_ne.2 hh
    simp only [hb, hb', Bool.false_and]
    rfl
theorem good_E1_of (h1 : G_E7) (h2 : G_C9) (h3 : G_H3) (h4 : G_H1) (h5 : G_C6) : G_E1 := by
  refine mk_E1 ?_ ?_ ?_ ?_ ?_ (fun h v _ => Tiles_spec h v) <;> assumption
theorem foldl_count {α : Type} (p : α -> Bool) : ∀ (l : List α) (s : Int), l.foldl (fun s x => bif p x then s + 1 else s) s = s + ((l.filter p).length : Int)
  | [], s => by simp
  | x :: l, s => by
    rw [List.foldl_cons, foldl_count p l]
    cases h : p x with
    | true => rw [List.filter_cons_of_pos h, List.length_cons, cond_true]; omega
    | false => rw [List.filter_cons_of_neg (by simp [h]), cond_false]
theorem count_spec (l : Rows) (hp : pre_H6 l = true) : spec_H6 l some = some (V.int .i64 (m_H6 l)) := by
  have hl : l.length <= 1099511627776 := Nat.le_of_ble_eq_true hp
  unfold spec_H6 m_H6
  refine (loop_foldB (b := (l.length : Int)) (L := fun n i s => loop_H6_0 l (l.length : Int) n s i (fun z _ => some (V.int .i64 z))) (g := fun s i => (fun s w => bif V.toBool (List.getD w 0 V.undef) then s + 1 else s) s (l.getD i.toNat [])) (e := fun z => some (V.int .i64 z)) (fun i t => 0 <= i /\ 0 <= t /\ t <= i) ?_ ?_ _ 0 0 ⟨Int.le_refl 0, Int.le_refl 0, Int.le_refl 0⟩ (Nat.le_refl _)).trans ?_
  · intro n i t ⟨h0, hb0, hb1⟩
    show step_H6_0 l (l.length : Int) t i _ _ = _
    unfold step_H6_0
    by_cases hi : i < (l.length : Int)
    · simp only [decide_eq_true hi, cond_true, inR_of h0 hi]
      rw [w64 (n := i + 1) (by omega) (by omega), w64 (n := t + 1) (by omega) (by omega)]
      cases V.toBool (List.getD (List.getD l i.toNat []) 0 V.undef) <;> rfl
    · simp only [decide_eq_false hi, cond_false]
  · intro i t ⟨h0, hb0, hb1⟩ hi
    refine ⟨by omega, ?_⟩
    simp only []
    cases V.toBool (List.getD (List.getD l i.toNat []) 0 V.undef) with
    | true => rw [cond_true]; omega
    | false => rw [cond_false]; omega
  · rw [rng_foldl (fun s w => bif V.toBool (List.getD w 0 V.undef) then s + 1 else s) l 0, foldl_count, Int.zero_add]
theorem good_H6_of : G_H6 := mk_H6 fun l hp _ => count_spec l hp
theorem Few_loop (n : Int) (h : SHeader) (p : SParams) (hn : n <= 16) (e : Option R) (kr : V -> Option R) (m : Nat) (hm : (n - 0).toNat + 1 <= m) :
    loop_J9_0 n h p m 0 (fun _ => e) kr = bif (rngI 0 n).all (fun t => !decide (m_F4 h p t > 400)) then e else kr (V.bool false) := by
  refine loop_allB (a := 0) (b := n) (L := fun m i => loop_J9_0 n h p m i (fun _ => e) kr) (ok := fun t => !decide (m_F4 h p t > 400)) (e := e) (x := kr (V.bool false)) (fun m i h0 => ?_) m hm
  show step_J9_0 n h p i _ _ kr = _
  unfold step_J9_0
  by_cases hi : i < n
  · simp only [decide_eq_true hi, cond_true, R24_Packets_pre]
    rw [w64 (n := i + 1) (by omega) (by omega)]
    cases decide (m_F4 h p i > 400) <;> rfl
  · simp only [decide_eq_false hi, cond_false]
theorem Few_spec (h : SHeader) (p : SParams) : spec_J9 h p some = some (V.bool (m_J9 h p)) := by
  unfold spec_J9 m_J9 m_G2 m_I1
  rw [R24_Tiles_eq]
  simp only []
  cases h1 : decide ((h.Components.length : Int) > 10) with
  | true => rfl
  | false =>
    cases h2 : decide ((p.Precincts.length : Int) > 10) with
    | true => rfl
    | false =>
      cases h3 : decide ((p.Steps.length : Int) > 40) with
      | true => rfl
      | false =>
        cases h4 : (m_C9 h != 0) with
        | true => rfl
        | false =>
          cases h5 : decide (IntKind.wrap .i64 (h.Area.X1 - h.Area.X0) > 40) with
          | true => rfl
          | false =>
            cases h6 : decide (IntKind.wrap .i64 (h.Area.Y1 - h.Area.Y0) > 40) with
            | true => rfl
            | false =>
              cases h7 : decide (((m_E7 h).length : Int) > 16) with
              | true => rfl
              | false =>
                cases h8 : (m_F0 h p != 0) with
                | true => rfl
                | false =>
                  have hn : ((m_E7 h).length : Int) <= 16 := by
                    have := of_decide_eq_false h7
                    omega
                  refine (Few_loop ((m_E7 h).length : Int) h p hn (some (V.bool true)) some _ (Nat.le_refl _)).trans ?_
                  show _ = some (V.bool ((rngI 0 ((m_E7 h).length : Int)).all fun t => !decide (m_F4 h p t > 400)))
                  cases (rngI 0 ((m_E7 h).length : Int)).all (fun t => !decide (m_F4 h p t > 400)) <;> rfl
theorem good_J9_of (h1 : G_G2) (h2 : G_I2) (h3 : G_I1) (h4 : G_F4) : G_J9 := by
  refine mk_J9 ?_ ?_ ?_ ?_ (fun h p _ => Few_spec h p) <;> assumption
theorem awake_spec : spec_H9 some = some (V.bool m_H9) := by kernel_rfl
theorem good_H9_of (h1 : G_D4) (h2 : G_E1) (h3 : G_H6) : G_H9 := mk_H9 h1 h2 h3 fun _ => awake_spec
theorem all_true {l : List Int} : l.all (fun _ => true) = true := by
  rw [List.all_eq_true]; intro _ _; rfl
theorem LNeeds_loop (l : Rows) (hl : l.length <= 1099511627776) (e : Option R) (kr : V -> Option R) (m : Nat) (hm : ((l.length : Int) - 0).toNat + 1 <= m) :
    loop_B3_0 l l (l.length : Int) m 0 (fun _ => e) kr = e := by
  refine (loop_allB (a := 0) (b := (l.length : Int)) (L := fun m i => loop_B3_0 l l (l.length : Int) m i (fun _ => e) kr) (ok := fun _ => true) (e := e) (x := kr (V.bool false)) (fun m i h0 => ?_) m hm).trans (by rw [all_true]; rfl)
  show step_B3_0 l l (l.length : Int) i _ _ kr = _
  unfold step_B3_0
  by_cases hi : i < (l.length : Int)
  · simp only [decide_eq_true hi, cond_true, inR_of h0 hi, beq_self_eq_true, Bool.not_true, cond_false]
    rw [w64 (n := i + 1) (by omega) (by omega)]
  · simp only [decide_eq_false hi, cond_false]
theorem mNeeded_length (h : SHeader) (p : SParams) (t : Int) (v : SView) : (m_D4 h p t v).1.length <= 1099511627776 := by
  unfold m_D4
  cases ((m_B5 h p v).2 != 0) with
  | true => exact Nat.zero_le _
  | false =>
    cases (decide (t < 0) || decide (t >= ((m_E7 h).length : Int))) with
    | true => exact Nat.zero_le _
    | false =>
      show ((m_G4 h p t).map _).length <= _
      rw [List.length_map]
      exact All_length
theorem LNeeds_spec (x : SL39_Place) (v : SView) : spec_B3 x v some = some (V.bool true) := by
  unfold spec_B3 m_H0
  have hl := mNeeded_length x.Header x.Params x.Tile v
  have key := LNeeds_loop (m_D4 x.Header x.Params x.Tile v).1 hl (some (V.bool m_H9)) some _ (Nat.le_refl _)
  cases hf : m_J9 x.Header x.Params with
  | false => rfl
  | true =>
    simp only [Bool.not_true, cond_false, bne_self_eq_false]
    exact key
theorem good_B3_of (h1 : G_J9) (h2 : G_H9) (h3 : G_D4) (h4 : G_H0) : G_B3 := mk_B3 h1 h2 h3 h4 fun x v _ => LNeeds_spec x v
end Go.Vm
