import Derived.Test.YtjekfokamcfffaaWPa
set_option linter.unusedVariables false
set_option linter.unusedSimpArgs false
set_option maxRecDepth 100000
noncomputable section
namespace Go.Vm
open Go.Proofs
variable {R : Type}
theorem R24_blocks_length (r : SRect) (p : SParams) (res band k : Int) : (m_G3 r p res band k).2.2.length <= 65536 := by
  have hc : ∀ (b : Bool) (x y : Int × Int × Rows), x.2.2.length <= 65536 -> y.2.2.length <= 65536 -> (bif b then x else y).2.2.length <= 65536 := by
    intro b x y hx hy
    cases b
    · exact hy
    · exact hx
  have hz : ((0, 0, []) : Int × Int × Rows).2.2.length <= 65536 := Nat.zero_le _
  unfold m_G3
  repeat' (first | exact hz | exact Blocks_length _ _ _ | refine hc _ _ _ ?_ ?_)
def refRows (r : SRect) (p : SParams) (comp res k : Int) (w : List V) : Rows := idRows comp res (V.toInt (List.getD w 0 V.undef)) k (m_G3 r p res (V.toInt (List.getD w 0 V.undef)) k).2.2
theorem refRows_length (r : SRect) (p : SParams) (comp res k : Int) (w : List V) : (refRows r p comp res k w).length <= 65536 := by
  unfold refRows
  rw [idRows_length]
  exact R24_blocks_length _ _ _ _ _
theorem Precincts_eq (r : SRect) (a b : Int) : m_A3 r a b = ((m_C3 r a b 12).2.2.1, (m_C3 r a b 12).2.2.2) := rfl
def nPrec (h : SHeader) (p : SParams) (tile comp res : Int) : Int := (m_A8 h p tile comp res).2.1 * (m_A8 h p tile comp res).2.2
theorem nPrec_bd (h : SHeader) (p : SParams) (tile comp res : Int) : 0 <= nPrec h p tile comp res /\ nPrec h p tile comp res <= 65536 := by
  have hc : ∀ (b : Bool) (x y : SRect × Int × Int), (0 <= x.2.1 * x.2.2 /\ x.2.1 * x.2.2 <= 65536) -> (0 <= y.2.1 * y.2.2 /\ y.2.1 * y.2.2 <= 65536) -> (0 <= (bif b then x else y).2.1 * (bif b then x else y).2.2 /\ (bif b then x else y).2.1 * (bif b then x else y).2.2 <= 65536) := by
    intro b x y hx hy
    cases b
    · exact hy
    · exact hx
  unfold nPrec m_A8
  refine hc _ _ _ ?_ ?_
  · exact ⟨by decide, by decide⟩
  · have bd := grid_bd (m_A6 (m_B0 h tile comp) p.Levels res) (m_B5 p res).X (m_B5 p res).Y 12 (by omega)
    exact ⟨Int.mul_nonneg bd.2.2.1.1 bd.2.2.2.1.1, bd.2.2.2.2⟩
def precRow (h : SHeader) (p : SParams) (tile comp res k : Int) : List V := [V.data SBlockID.sh (m_B8 h p tile ⟨comp, res, k, 0⟩)]
theorem All_4 (tile comp res q1 q2 n0 : Int) (h : SHeader) (p : SParams) (hn0 : n0 <= 65536) (s : Rows) (hs : s.length <= 1099511000000) (e : Rows -> Option R) (m : Nat) (hm : (n0 - 0).toNat + 1 <= m) :
    loop_G6_4 tile comp res q1 q2 n0 h p m 0 s (fun _ z => e z) = e (s ++ (rngI 0 n0).map (precRow h p tile comp res)) := by
  refine (loop_foldB (b := n0) (L := fun n i s => loop_G6_4 tile comp res q1 q2 n0 h p n i s (fun _ z => e z)) (g := fun s i => s ++ [precRow h p tile comp res i]) (e := e) (fun i t => 0 <= i /\ t.length <= s.length + i.toNat) ?_ ?_ m 0 s ⟨Int.le_refl 0, by omega⟩ hm).trans ?_
  · intro n i t ⟨h0, hb⟩
    show step_G6_4 tile comp res q1 q2 n0 h p i t _ _ = _
    unfold step_G6_4
    by_cases hi : i < n0
    · have hroom : roomOK (t.length + 1) 24 = true := room_of (by omega)
      simp only [decide_eq_true hi, cond_true, hroom]
      rw [w64 (n := i + 1) (by omega) (by omega)]
      rfl
    · simp only [decide_eq_false hi, cond_false]
  · intro i t ⟨h0, hb⟩ hi
    refine ⟨by omega, ?_⟩
    rw [List.length_append]
    show t.length + 1 <= _
    omega
  · rw [foldl_snoc]
def resRows (h : SHeader) (p : SParams) (tile comp res : Int) : Rows := (rngI 0 (nPrec h p tile comp res)).map (precRow h p tile comp res)
theorem resRows_length (h : SHeader) (p : SParams) (tile comp res : Int) : (resRows h p tile comp res).length <= 65536 := by
  unfold resRows
  rw [List.length_map, length_rngI]
  have := nPrec_bd h p tile comp res
  omega
theorem All_2 (tile comp q1 q2 : Int) (h : SHeader) (p : SParams) (hL : 0 <= p.Levels /\ p.Levels <= 5) (s : Rows) (hs : s.length <= 1099510000000) (e : Rows -> Option R) (m : Nat) (hm : (p.Levels + 1 - 0).toNat + 1 <= m) :
    loop_G6_2 tile comp q1 q2 h p m 0 s (fun _ z => e z) = e (s ++ (rngI 0 (p.Levels + 1)).flatMap (resRows h p tile comp)) := by
  refine (loop_foldB (b := p.Levels + 1) (L := fun n i s => loop_G6_2 tile comp q1 q2 h p n i s (fun _ z => e z)) (g := fun s i => s ++ resRows h p tile comp i) (e := e) (fun i t => 0 <= i /\ (i <= 6 -> t.length <= s.length + i.toNat * 65536)) ?_ ?_ m 0 s ⟨Int.le_refl 0, fun _ => Nat.le_add_right _ _⟩ hm).trans ?_
  · intro n i t ⟨h0, hb⟩
    show step_G6_2 tile comp q1 q2 h p i t _ _ = _
    unfold step_G6_2
    by_cases hi : i <= p.Levels
    · have hi' : i < p.Levels + 1 := by omega
      have hn := nPrec_bd h p tile comp i
      have := hb (by omega)
      simp only [decide_eq_true hi, decide_eq_true hi', cond_true]
      have ew : IntKind.wrap .i64 ((m_A8 h p tile comp i).2.1 * (m_A8 h p tile comp i).2.2) = nPrec h p tile comp i := w64 (by unfold nPrec at hn; omega) (by unfold nPrec at hn; omega)
      rw [ew]
      refine (All_4 tile comp i _ _ (nPrec h p tile comp i) h p hn.2 t (by omega) (fun z => loop_G6_2 tile comp q1 q2 h p n (IntKind.wrap .i64 (i + 1)) z (fun _ z => e z)) _ (Nat.le_refl _)).trans ?_
      rw [w64 (n := i + 1) (by omega) (by omega)]
      rfl
    · have hi' : ¬ i < p.Levels + 1 := by omega
      simp only [decide_eq_false hi, decide_eq_false hi', cond_false]
  · intro i t ⟨h0, hb⟩ hi
    refine ⟨by omega, fun hh => ?_⟩
    have h1 := hb (by omega)
    show (t ++ resRows h p tile comp i).length <= _
    rw [List.length_append, show (i + 1).toNat = i.toNat + 1 by omega, Nat.add_mul, Nat.one_mul]
    have := resRows_length h p tile comp i
    omega
  · rw [foldl_app]
theorem flatMap_rng_le (f : Int -> Rows) (n : Nat) (a b : Int) (h : ∀ i, (f i).length <= n) : ((rngI a b).flatMap f).length <= (b - a).toNat * n := by
  have := flatMap_le f n (rngI a b) fun x _ => h x
  rwa [length_rngI] at this
def compRows (h : SHeader) (p : SParams) (tile comp : Int) : Rows := (rngI 0 (p.Levels + 1)).flatMap (resRows h p tile comp)
theorem compRows_length (h : SHeader) {p : SParams} (hL : 0 <= p.Levels /\ p.Levels <= 5) (tile comp : Int) : (compRows h p tile comp).length <= 393216 := by
  have := flatMap_rng_le (resRows h p tile comp) 65536 0 (p.Levels + 1) fun i => resRows_length h p tile comp i
  unfold compRows
  have h6 : (p.Levels + 1 - 0).toNat <= 6 := by omega
  have := Nat.mul_le_mul_right 65536 h6
  omega
theorem All_0 (tile n0 : Int) (h : SHeader) (p : SParams) (hL : 0 <= p.Levels /\ p.Levels <= 5) (hn : n0 <= 4) (e : Rows -> Option R) (m : Nat) (hm : (n0 - 0).toNat + 1 <= m) :
    loop_G6_0 tile n0 h p m 0 [] (fun _ z => e z) = e ((rngI 0 n0).flatMap (compRows h p tile)) := by
  refine (loop_foldB (b := n0) (L := fun n i s => loop_G6_0 tile n0 h p n i s (fun _ z => e z)) (g := fun s i => s ++ compRows h p tile i) (e := e) (fun i t => 0 <= i /\ (i <= 4 -> t.length <= i.toNat * 393216)) ?_ ?_ m 0 [] ⟨Int.le_refl 0, fun _ => Nat.zero_le _⟩ hm).trans ?_
  · intro n i t ⟨h0, hb⟩
    show step_G6_0 tile n0 h p i t _ _ = _
    unfold step_G6_0
    by_cases hi : i < n0
    · have := hb (by omega)
      simp only [decide_eq_true hi, cond_true]
      refine (All_2 tile i n0 i h p hL t (by omega) (fun z => loop_G6_0 tile n0 h p n (IntKind.wrap .i64 (i + 1)) z (fun _ z => e z)) _ (by
        show _ <= Int.toNat (p.Levels - 0) + 2
        omega)).trans ?_
      rw [w64 (n := i + 1) (by omega) (by omega)]
      rfl
    · simp only [decide_eq_false hi, cond_false]
  · intro i t ⟨h0, hb⟩ hi
    refine ⟨by omega, fun hh => ?_⟩
    have h1 := hb (by omega)
    show (t ++ compRows h p tile i).length <= _
    rw [List.length_append, show (i + 1).toNat = i.toNat + 1 by omega, Nat.add_mul, Nat.one_mul]
    have := compRows_length h hL tile i
    omega
  · rw [foldl_app, List.nil_append]
theorem exists_iff {h : SHeader} {p : SParams} {t c : Int} : m_D7 h p t c = true ↔ m_E2 h p = 0 /\ (0 <= t /\ t < ((m_E7 h).length : Int)) /\ 0 <= c /\ c < (h.Components.length : Int) := by
  have e : ∀ (a b : Bool), (bif a then b else false) = (a && b) := by intro a b; cases a <;> rfl
  unfold m_D7
  simp only [e, b_true, Bool.and_eq_true, decide_eq_true_eq, beq_iff_eq]
  constructor
  · rintro ⟨⟨h1, h2⟩, ⟨h3, h4⟩, h5⟩; exact ⟨h1, ⟨h2, h3⟩, h4, h5⟩
  · rintro ⟨h1, ⟨h2, h3⟩, h4, h5⟩; exact ⟨⟨h1, h2⟩, ⟨h3, h4⟩, h5⟩
theorem check_ok {h : SHeader} {p : SParams} (hz : m_E2 h p = 0) : m_C9 h = 0 /\ kindB p = true /\ numB p = true /\ colorB h p = true /\ (cellsL h.Area h.TileW h.TileH).all (fun t => m_B9 h p t) = true := by
  unfold m_E2 at hz
  by_cases h0 : m_C9 h = 0
  · rw [show (m_C9 h != 0) = false by rw [h0]; rfl] at hz
    cases hk : kindB p with
    | false => rw [hk] at hz; cases hz
    | true =>
      cases hn : m_C5 h p with
      | false => rw [hk, hn] at hz; cases hz
      | true =>
        cases hc : (cellsL h.Area h.TileW h.TileH).all (fun t => m_B9 h p t) with
        | false => rw [hk, hn, hc] at hz; cases hz
        | true =>
          unfold m_C5 at hn
          rw [Bool.and_eq_true] at hn
          exact ⟨h0, rfl, hn.1, hn.2, rfl⟩
  · rw [show (m_C9 h != 0) = true from bne_iff_ne.2 h0] at hz
    exact absurd hz h0
theorem join_flat {α : Type} (f : α -> Rows) (l : List α) : m_F8 (l.flatMap f) = l.flatMap fun x => m_F8 (f x) := by
  unfold m_F8
  rw [List.flatMap_assoc]
theorem join_resRows (h : SHeader) (p : SParams) (tile comp res : Int) : m_F8 (resRows h p tile comp res) = (rngI 0 (nPrec h p tile comp res)).flatMap fun k => m_B8 h p tile ⟨comp, res, k, 0⟩ := by
  unfold resRows m_F8
  rw [List.flatMap_map]
  rfl
theorem All_lists {h : SHeader} {p : SParams} {tile : Int} (he : m_D7 h p tile 0 = true) : m_F8 ((rngI 0 (h.Components.length : Int)).flatMap (compRows h p tile)) = m_G6 h p tile := by
  unfold m_G6
  rw [he, cond_true, join_flat]
  congr 1
  funext comp
  unfold compRows
  rw [join_flat]
  congr 1
  funext res
  rw [join_resRows]
  have hn := nPrec_bd h p tile comp res
  rw [show IntKind.wrap .i64 ((m_A8 h p tile comp res).2.1 * (m_A8 h p tile comp res).2.2) = nPrec h p tile comp res from w64 (by unfold nPrec at hn; omega) (by unfold nPrec at hn; omega)]
theorem All_spec (h : SHeader) (p : SParams) (tile : Int) : spec_G6 h p tile some = some (V.data SBlockID.sh (m_G6 h p tile)) := by
  unfold spec_G6
  cases he : m_D7 h p tile 0 with
  | false =>
    unfold m_G6
    rw [he]
    rfl
  | true =>
    obtain ⟨hc, _, _⟩ := exists_iff.1 he
    obtain ⟨hh, _, hn, _, _⟩ := check_ok hc
    have hL := (numB_iff hn).1
    have h4 := head_comps hh
    simp only [Bool.not_true, cond_false]
    refine (All_0 tile (h.Components.length : Int) h p hL (by omega) (fun z => bif pre_F8 z then some (V.data SBlockID.sh (m_F8 z)) else none) _ (Nat.le_refl _)).trans ?_
    have hj := All_lists he
    have hlen : ((rngI 0 (h.Components.length : Int)).flatMap (compRows h p tile)).length <= 1572864 := by
      have := flatMap_rng_le (compRows h p tile) 393216 0 (h.Components.length : Int) fun i => compRows_length h hL tile i
      have h5 : ((h.Components.length : Int) - 0).toNat <= 4 := by omega
      have := Nat.mul_le_mul_right 393216 h5
      omega
    have hall : (m_G6 h p tile).length <= 1099511627776 := by
      unfold m_G6
      rw [he, cond_true]
      have h1 : ∀ comp res, ((rngI 0 (IntKind.wrap .i64 ((m_A8 h p tile comp res).2.1 * (m_A8 h p tile comp res).2.2))).flatMap fun k => m_B8 h p tile ⟨comp, res, k, 0⟩).length <= 12884901888 := by
        intro comp res
        have hb := nPrec_bd h p tile comp res
        rw [show IntKind.wrap .i64 ((m_A8 h p tile comp res).2.1 * (m_A8 h p tile comp res).2.2) = nPrec h p tile comp res from w64 (by unfold nPrec at hb; omega) (by unfold nPrec at hb; omega)]
        have := flatMap_rng_le (fun k => m_B8 h p tile ⟨comp, res, k, 0⟩) 196608 0 (nPrec h p tile comp res) fun i => precinct_length h p tile _
        have h5 : (nPrec h p tile comp res - 0).toNat <= 65536 := by omega
        have := Nat.mul_le_mul_right 196608 h5
        omega
      have h2 : ∀ comp, ((rngI 0 (p.Levels + 1)).flatMap fun res => (rngI 0 (IntKind.wrap .i64 ((m_A8 h p tile comp res).2.1 * (m_A8 h p tile comp res).2.2))).flatMap fun k => m_B8 h p tile ⟨comp, res, k, 0⟩).length <= 77309411328 := by
        intro comp
        have := flatMap_rng_le _ 12884901888 0 (p.Levels + 1) fun i => h1 comp i
        have h5 : (p.Levels + 1 - 0).toNat <= 6 := by omega
        have := Nat.mul_le_mul_right 12884901888 h5
        omega
      have := flatMap_rng_le _ 77309411328 0 (h.Components.length : Int) fun i => h2 i
      have h5 : ((h.Components.length : Int) - 0).toNat <= 4 := by omega
      have := Nat.mul_le_mul_right 77309411328 h5
      omega
    have hp : pre_F8 ((rngI 0 (h.Components.length : Int)).flatMap (compRows h p tile)) = true := by
      unfold pre_F8
      rw [hj, Nat.ble_eq_true_of_le (by omega), Nat.ble_eq_true_of_le hall]
      rfl
    simp only [hp, cond_true]
    rw [hj]
theorem good_G6_of (h1 : G_D7) (h2 : G_A8) (h3 : G_B8) (h4 : G_F8) : G_G6 := by
  refine mk_G6 ?_ ?_ ?_ ?_ (fun h p t _ => All_spec h p t) <;> assumption
theorem rngI_nodup (a b : Int) : (rngI a b).Pairwise fun x y => x ≠ y := by
  unfold rngI
  rw [List.pairwise_map]
  refine List.Pairwise.imp ?_ List.nodup_range
  intro x y h
  omega
theorem pw_flat {α β : Type} {R : β -> β -> Prop} {S : α -> α -> Prop} {l : List α} {f : α -> List β} (hS : l.Pairwise S) (h1 : ∀ a ∈ l, (f a).Pairwise R) (h2 : ∀ a b, S a b -> ∀ x ∈ f a, ∀ y ∈ f b, R x y) : (l.flatMap f).Pairwise R := by
  rw [List.pairwise_flatMap]
  exact ⟨h1, hS.imp fun {a b} h => h2 a b h⟩
def Diff (x y : List V) : Prop := SBlockID.of x ≠ SBlockID.of y
theorem idRows_mem {c r b k : Int} {l : Rows} {w : List V} (h : w ∈ idRows c r b k l) : (SBlockID.of w).Comp = c /\ (SBlockID.of w).Res = r /\ (SBlockID.of w).Band = b /\ (SBlockID.of w).Precinct = k := by
  unfold idRows at h
  obtain ⟨i, _, rfl⟩ := List.mem_map.1 h
  exact ⟨rfl, rfl, rfl, rfl⟩
theorem idRows_diff (c r b k : Int) (l : Rows) : (idRows c r b k l).Pairwise Diff := by
  unfold idRows
  rw [List.pairwise_map]
  refine (rngI_nodup 0 (l.length : Int)).imp ?_
  intro i j hij h
  exact hij (congrArg SBlockID.Index h)
theorem Indices_diff {l res : Int} (hl : 0 <= l /\ l <= 5) (h0 : 0 <= res) (h1 : res <= l) : (m_B4 l res).Pairwise fun x y => V.toInt (List.getD x 0 V.undef) ≠ V.toInt (List.getD y 0 V.undef) := by
  rw [Indices_eq hl h0 h1]
  split
  · exact List.pairwise_singleton _ _
  · refine List.Pairwise.cons ?_ (List.Pairwise.cons ?_ (List.pairwise_singleton _ _))
    · intro y hy
      simp only [List.mem_cons, List.not_mem_nil, or_false] at hy
      rcases hy with rfl | rfl
      · show 3 * res - 2 ≠ 3 * res - 1
        omega
      · show 3 * res - 2 ≠ 3 * res
        omega
    · intro y hy
      simp only [List.mem_cons, List.not_mem_nil, or_false] at hy
      subst hy
      show 3 * res - 1 ≠ 3 * res
      omega
theorem precinct_mem {h : SHeader} {p : SParams} {tile : Int} {id : SPacketID} {w : List V} (hw : w ∈ m_B8 h p tile id) : (SBlockID.of w).Comp = id.Comp /\ (SBlockID.of w).Res = id.Res /\ (SBlockID.of w).Precinct = id.Precinct := by
  unfold m_B8 m_A7 at hw
  obtain ⟨v, _, hv⟩ := List.mem_flatMap.1 hw
  obtain ⟨h1, h2, _, h4⟩ := idRows_mem hv
  exact ⟨h1, h2, h4⟩
theorem precinct_diff (h : SHeader) {p : SParams} (tile : Int) (id : SPacketID) (hl : 0 <= p.Levels /\ p.Levels <= 5) (h0 : 0 <= id.Res) (h1 : id.Res <= p.Levels) : (m_B8 h p tile id).Pairwise Diff := by
  unfold m_B8
  refine pw_flat (Indices_diff hl h0 h1) (fun a _ => idRows_diff _ _ _ _ _) ?_
  intro a b hab x hx y hy he
  unfold m_A7 at hx hy
  have e1 := (idRows_mem hx).2.2.1
  have e2 := (idRows_mem hy).2.2.1
  apply hab
  rw [<- e1, <- e2, he]
theorem All_diff (h : SHeader) (p : SParams) (tile : Int) : (m_G6 h p tile).Pairwise Diff := by
  unfold m_G6
  cases he : m_D7 h p tile 0 with
  | false => exact List.Pairwise.nil
  | true =>
    obtain ⟨hc, _, _⟩ := exists_iff.1 he
    obtain ⟨_, _, hn, _, _⟩ := check_ok hc
    have hL := (numB_iff hn).1
    rw [cond_true]
    have comp_of : ∀ comp, ∀ w ∈ ((rngI 0 (p.Levels + 1)).flatMap fun res => (rngI 0 (IntKind.wrap .i64 ((m_A8 h p tile comp res).2.1 * (m_A8 h p tile comp res).2.2))).flatMap fun k => m_B8 h p tile ⟨comp, res, k, 0⟩), (SBlockID.of w).Comp = comp := by
      intro comp w hw
      obtain ⟨res, _, hw⟩ := List.mem_flatMap.1 hw
      obtain ⟨k, _, hw⟩ := List.mem_flatMap.1 hw
      exact (precinct_mem hw).1
    have res_of : ∀ comp res, ∀ w ∈ ((rngI 0 (IntKind.wrap .i64 ((m_A8 h p tile comp res).2.1 * (m_A8 h p tile comp res).2.2))).flatMap fun k => m_B8 h p tile ⟨comp, res, k, 0⟩), (SBlockID.of w).Res = res := by
      intro comp res w hw
      obtain ⟨k, _, hw⟩ := List.mem_flatMap.1 hw
      exact (precinct_mem hw).2.1
    refine pw_flat (rngI_nodup _ _) (fun comp _ => pw_flat (rngI_nodup _ _) (fun res hr => pw_flat (rngI_nodup _ _) (fun k _ => precinct_diff h tile _ hL ?_ ?_) ?_) ?_) ?_
    · exact (mem_rngI.1 hr).1
    · have := (mem_rngI.1 hr).2
      show res <= _
      omega
    · intro a b hab x hx y hy hxy
      have e1 := (precinct_mem hx).2.2
      have e2 := (precinct_mem hy).2.2
      apply hab
      show a = b
      rw [show a = _ from e1.symm, show b = _ from e2.symm, hxy]
    · intro a b hab x hx y hy hxy
      exact hab ((res_of comp a x hx).symm.trans ((congrArg SBlockID.Res hxy).trans (res_of comp b y hy)))
    · intro a b hab x hx y hy hxy
      exact hab ((comp_of a x hx).symm.trans ((congrArg SBlockID.Comp hxy).trans (comp_of b y hy)))
theorem flat_congr {α β : Type} {f g : α -> List β} : ∀ {l : List α}, (∀ x ∈ l, f x = g x) -> l.flatMap f = l.flatMap g
  | [], _ => rfl
  | x :: l, h => by rw [List.flatMap_cons, List.flatMap_cons, h x (List.mem_cons_self ..), flat_congr fun y hy => h y (List.mem_cons_of_mem _ hy)]
theorem R24_Tiles_eq : m_I3 = m_E7 := rfl
theorem R24_ValidTile_eq : m_D5 = m_D7 := rfl
theorem R24_Component_eq (h : SHeader) (t c : Int) : m_D3 h t c = m_B0 h t c := by
  unfold m_D3 m_B0
  rw [R24_Tiles_eq]
  by_cases h1 : t < 0
  · simp only [decide_eq_true h1]; rfl
  · by_cases h2 : t >= ((m_E7 h).length : Int)
    · simp only [decide_eq_true h2]; rfl
    · by_cases h3 : c < 0
      · simp only [decide_eq_true h3, decide_eq_false h2]; rfl
      · by_cases h4 : c >= (h.Components.length : Int)
        · simp only [decide_eq_false h1, decide_eq_false h2, decide_eq_false h3, decide_eq_true h4]
          rfl
        · have i1 := inR_of (i := t) (n := (m_E7 h).length) (by omega) (by omega)
          have i2 := inR_of (i := c) (n := h.Components.length) (by omega) (by omega)
          simp only [decide_eq_false h1, decide_eq_false h2, decide_eq_false h3, decide_eq_false h4, i1, i2]
          rfl
theorem Indices_mem {l res : Int} (hl : 0 <= l /\ l <= 5) (h0 : 0 <= res) (h1 : res <= l) {w : List V} (hw : w ∈ m_B4 l res) :
    0 <= V.toInt (List.getD w 0 V.undef) /\ V.toInt (List.getD w 0 V.undef) <= 3 * l /\ (V.toInt (List.getD w 0 V.undef) + 2) / 3 = res := by
  rw [Indices_eq hl h0 h1] at hw
  split at hw
  · rename_i hz
    rw [List.mem_singleton] at hw
    subst hw
    show 0 <= (0 : Int) /\ (0 : Int) <= _ /\ ((0 : Int) + 2) / 3 = _
    omega
  · rename_i hz
    simp only [List.mem_cons, List.not_mem_nil, or_false] at hw
    rcases hw with rfl | rfl | rfl
    · show 0 <= 3 * res - 2 /\ 3 * res - 2 <= _ /\ (3 * res - 2 + 2) / 3 = _
      omega
    · show 0 <= 3 * res - 1 /\ 3 * res - 1 <= _ /\ (3 * res - 1 + 2) / 3 = _
      omega
    · show 0 <= 3 * res /\ 3 * res <= _ /\ (3 * res + 2) / 3 = _
      omega
theorem inPrecinct_eq (h : SHeader) {p : SParams} (tile comp k : Int) (hn : numB p = true) {res : Int} (h0 : 0 <= res) (h1 : res <= p.Levels) :
    m_C4 (m_B0 h tile comp) p comp res k = m_B8 h p tile ⟨comp, res, k, 0⟩ := by
  have hL := (numB_iff hn).1
  unfold m_C4 m_B8 m_A7
  refine flat_congr fun w hw => ?_
  obtain ⟨b0, b1, b2⟩ := Indices_mem hL h0 h1 hw
  rw [<- find_blocks h tile comp k hn h0 h1 b0 b1 b2]
theorem inPrecinct_length (r : SRect) (p : SParams) (comp res k : Int) : (m_C4 r p comp res k).length <= 196608 := by
  unfold m_C4
  have := flatMap_le (fun w => idRows comp res (V.toInt (List.getD w 0 V.undef)) k (m_G3 r p res (V.toInt (List.getD w 0 V.undef)) k).2.2) 65536 (m_B4 p.Levels res) fun w _ => refRows_length r p comp res k w
  have h3 := Indices_length p.Levels res
  have := Nat.mul_le_mul_right 65536 h3
  omega
def rRows (r : SRect) (p : SParams) (comp res : Int) : Rows := (rngI 0 ((m_C7 r p res).2.1 * (m_C7 r p res).2.2)).flatMap (m_C4 r p comp res)
theorem res_bd (r : SRect) (p : SParams) (res : Int) : 0 <= (m_C7 r p res).2.1 * (m_C7 r p res).2.2 /\ (m_C7 r p res).2.1 * (m_C7 r p res).2.2 <= 65536 := by
  unfold m_C7
  simp only [R22_Precincts_eq]
  have bd := grid_bd (m_C1 r p.Levels res) (m_E5 p res).X (m_E5 p res).Y 12 (by omega)
  exact ⟨Int.mul_nonneg bd.2.2.1.1 bd.2.2.2.1.1, bd.2.2.2.2⟩
theorem rRows_length (r : SRect) (p : SParams) (comp res : Int) : (rRows r p comp res).length <= 12884901888 := by
  unfold rRows
  have hb := res_bd r p res
  have := flatMap_rng_le (m_C4 r p comp res) 196608 0 ((m_C7 r p res).2.1 * (m_C7 r p res).2.2) fun i => inPrecinct_length r p comp res i
  have h5 : ((m_C7 r p res).2.1 * (m_C7 r p res).2.2 - 0).toNat <= 65536 := by omega
  have := Nat.mul_le_mul_right 196608 h5
  omega
def cRows (h : SHeader) (p : SParams) (tile comp : Int) : Rows := (rngI 0 (p.Levels + 1)).flatMap (rRows (m_D3 h tile comp) p comp)
theorem cRows_length (h : SHeader) {p : SParams} (hL : 0 <= p.Levels /\ p.Levels <= 5) (tile comp : Int) : (cRows h p tile comp).length <= 77309411328 := by
  have := flatMap_rng_le (rRows (m_D3 h tile comp) p comp) 12884901888 0 (p.Levels + 1) fun i => rRows_length _ p comp i
  unfold cRows
  have h6 : (p.Levels + 1 - 0).toNat <= 6 := by omega
  have := Nat.mul_le_mul_right 12884901888 h6
  omega
theorem RAll_lists {h : SHeader} {p : SParams} {tile : Int} (he : m_D7 h p tile 0 = true) : (rngI 0 (h.Components.length : Int)).flatMap (cRows h p tile) = m_G6 h p tile := by
  obtain ⟨hc, ht, _⟩ := exists_iff.1 he
  obtain ⟨_, _, hn, _, _⟩ := check_ok hc
  have hL := (numB_iff hn).1
  unfold m_G6
  rw [he, cond_true]
  refine flat_congr fun comp hcomp => ?_
  have hcb := mem_rngI.1 hcomp
  unfold cRows
  refine flat_congr fun res hres => ?_
  have hrb := mem_rngI.1 hres
  have hex : m_D7 h p tile comp = true := exists_iff.2 ⟨hc, ht, hcb⟩
  have er : m_C7 (m_D3 h tile comp) p res = m_A8 h p tile comp res := by
    unfold m_A8 m_C7
    have d1 : ¬ res < 0 := by omega
    have d2 : ¬ res > p.Levels := by omega
    rw [hex, R24_Component_eq]
    simp only [decide_eq_false d1, decide_eq_false d2, Bool.not_true, cond_false, R22_Precincts_eq, Precincts_eq]
    rfl
  unfold rRows
  rw [er]
  have hb := nPrec_bd h p tile comp res
  rw [w64 (n := (m_A8 h p tile comp res).2.1 * (m_A8 h p tile comp res).2.2) (by unfold nPrec at hb; omega) (by unfold nPrec at hb; omega)]
  refine flat_congr fun k _ => ?_
  rw [R24_Component_eq]
  exact inPrecinct_eq h tile comp k hn hrb.1 (by omega)
theorem setCells4 (r : SRect) : ∀ {l : List V}, l.length = 4 -> setCells l 0 (SRect.row r) = SRect.row r
  | [a, b, c, d], _ => rfl
  | [], h => by cases h
  | [_], h => by cases h
  | [_, _], h => by cases h
  | [_, _, _], h => by cases h
  | _ :: _ :: _ :: _ :: _ :: _, h => by simp at h
def R4 (n : Nat) (o : Rows) : Prop := o.length = n /\ ∀ w ∈ o, w.length = 4
theorem R4.set {n : Nat} {o : Rows} (h : R4 n o) (i : Nat) (r : SRect) : R4 n (o.set i (SRect.row r)) := by
  refine ⟨by rw [List.length_set]; exact h.1, fun w hw => ?_⟩
  rcases List.mem_or_eq_of_mem_set hw with hw | rfl
  · exact h.2 w hw
  · rfl
theorem R4.at {n : Nat} {o : Rows} (h : R4 n o) {i : Nat} (hi : i < n) : (List.getD o i []).length = 4 := by
  have h1 : i < o.length := by rw [h.1]; exact hi
  rw [List.getD_eq_getElem?_getD, List.getElem?_eq_getElem h1]
  exact h.2 _ (List.getElem_mem h1)
theorem bandsOf_valid {r : SRect} (hv : m_H1 r = true) : m_H1 (bandsOf r).e0 = true := by
  obtain ⟨⟨h1, h2, h3⟩, h4, h5, h6⟩ := Valid_iff.1 hv
  exact Valid_iff.2 ⟨⟨by show 0 <= (r.X0 + 1) / 2; omega, by show (r.X0 + 1) / 2 <= (r.X1 + 1) / 2; omega, by show (r.X1 + 1) / 2 <= 4096; omega⟩, by show 0 <= (r.Y0 + 1) / 2; omega, by show (r.Y0 + 1) / 2 <= (r.Y1 + 1) / 2; omega, by show (r.Y1 + 1) / 2 <= 4096; omega⟩
theorem with_res (a : SRect) (l i : Int) (w : SRect) : m_H1 (m_C6 w (m_A6 a l i)) = true := by
  have hv := Resolution_valid a l i
  obtain ⟨⟨h1, _⟩, h4, _⟩ := Valid_iff.1 hv
  exact Intersect_valid (Or.inr hv) (Or.inr h1) (Or.inr h4)
theorem needN_ok (a : SRect) (l m : Int) : ∀ (n N : Nat) (o : Rows) (w : SRect), R4 N o -> m_H1 w = true -> R4 N (needN a l m n o w).1 /\ m_H1 (needN a l m n o w).2 = true
  | 0, N, o, w, h, hw => ⟨h, hw⟩
  | n + 1, N, o, w, h, hw => by
    unfold needN
    refine needN_ok a l m n N _ _ (((h.set _ _).set _ _).set _ _) ?_
    rw [dwt_Bands_eq (with_res _ _ _ _)]
    exact bandsOf_valid (with_res _ _ _ _)
theorem Margin_bd (k : Int) : 0 <= m_F2 k /\ m_F2 k <= 4 := by
  have hc : ∀ (b : Bool) (x y : Int), (0 <= x /\ x <= 4) -> (0 <= y /\ y <= 4) -> (0 <= (bif b then x else y) /\ (bif b then x else y) <= 4) := by
    intro b x y hx hy
    cases b
    · exact hy
    · exact hx
  unfold m_F2
  repeat' (first | exact ⟨by decide, by decide⟩ | refine hc _ _ _ ?_ ?_)
theorem Need_loop (a : SRect) (l m : Int) (hl : 0 <= l /\ l <= 5) (hm : 0 <= m /\ m <= 4) (e : Rows -> SRect -> Option R) : ∀ (i n : Nat) (o : Rows) (w : SRect), i + 1 <= n -> (i : Int) <= l -> R4 (3 * l + 1).toNat o -> m_H1 w = true ->
    loop_F0_0 l m a n (i : Int) o w (fun _ z g => e z g) = e (needN a l m i o w).1 (needN a l m i o w).2
  | i, 0, o, w, hn, _, _, _ => by omega
  | 0, n + 1, o, w, _, _, _, _ => by
    show step_F0_0 l m a 0 o w _ _ = _
    unfold step_F0_0
    rfl
  | i + 1, n + 1, o, w, hn, hi, ho, hw => by
    show step_F0_0 l m a ((i + 1 : Nat) : Int) o w _ _ = _
    obtain ⟨⟨h1, h2, h3⟩, h4, h5, h6⟩ := Valid_iff.1 hw
    unfold step_F0_0
    have c1 : ((i + 1 : Nat) : Int) = (i : Int) + 1 := by omega
    rw [c1]
    have hd : (i : Int) + 1 > 0 := by omega
    simp only [decide_eq_true hd, cond_true]
    rw [w64 (n := w.X0 - m) (by omega) (by omega), w64 (n := w.Y0 - m) (by omega) (by omega), w64 (n := w.X1 + m) (by omega) (by omega), w64 (n := w.Y1 + m) (by omega) (by omega),
      w64 (n := 3 * ((i : Int) + 1)) (by omega) (by omega), w64 (n := 3 * ((i : Int) + 1) - 2) (by omega) (by omega), w64 (n := 3 * ((i : Int) + 1) - 1) (by omega) (by omega), w64 (n := (i : Int) + 1 - 1) (by omega) (by omega)]
    have t1 : (3 * ((i : Int) + 1) - 2).toNat = 3 * i + 1 := by omega
    have t2 : (3 * ((i : Int) + 1) - 1).toNat = 3 * i + 2 := by omega
    have t3 : (3 * ((i : Int) + 1)).toNat = 3 * i + 3 := by omega
    have hlen := ho.1
    have r1 : inR (3 * ((i : Int) + 1) - 2) o.length = true := inR_of (by omega) (by omega)
    have r2 : inR (3 * ((i : Int) + 1) - 1) o.length = true := inR_of (by omega) (by omega)
    have r3 : inR (3 * ((i : Int) + 1)) o.length = true := inR_of (by omega) (by omega)
    simp only [List.length_set, r1, r2, r3, cond_true, t1, t2, t3]
    have s1 := ho.at (i := 3 * i + 1) (by omega)
    rw [setCells4 _ s1]
    have o1 := ho.set (3 * i + 1) (m_J1 (m_C6 ⟨w.X0 - m, w.Y0 - m, w.X1 + m, w.Y1 + m⟩ (m_A6 a l ((i : Int) + 1)))).e1
    have s2 := o1.at (i := 3 * i + 2) (by omega)
    rw [setCells4 _ s2]
    have o2 := o1.set (3 * i + 2) (m_J1 (m_C6 ⟨w.X0 - m, w.Y0 - m, w.X1 + m, w.Y1 + m⟩ (m_A6 a l ((i : Int) + 1)))).e2
    have s3 := o2.at (i := 3 * i + 3) (by omega)
    rw [setCells4 _ s3, show (i : Int) + 1 - 1 = (i : Int) by omega]
    refine (Need_loop a l m hl hm e i n _ _ (by omega) (by omega) (o2.set _ _) ?_).trans ?_
    · rw [dwt_Bands_eq (with_res _ _ _ _)]
      exact bandsOf_valid (with_res _ _ _ _)
    · have e1 := show needN a l m (i + 1) o w = (fun (b : SA4_Rect) => needN a l m i (((o.set (3 * i + 1) (SRect.row b.e1)).set (3 * i + 2) (SRect.row b.e2)).set (3 * i + 3) (SRect.row b.e3)) b.e0) (m_J1 (m_C6 ⟨IntKind.wrap .i64 (w.X0 - m), IntKind.wrap .i64 (w.Y0 - m), IntKind.wrap .i64 (w.X1 + m), IntKind.wrap .i64 (w.Y1 + m)⟩ (m_A6 a l ((i : Int) + 1)))) from rfl
      rw [w64 (n := w.X0 - m) (by omega) (by omega), w64 (n := w.Y0 - m) (by omega) (by omega), w64 (n := w.X1 + m) (by omega) (by omega), w64 (n := w.Y1 + m) (by omega) (by omega)] at e1
      rw [e1]
theorem needOK_iff {a : SRect} {l res k : Int} : needOK a l res k = true ↔ m_H1 a = true /\ (0 <= l /\ l <= 5) /\ (0 <= res /\ res <= l) /\ m_F2 k ≠ 0 := by
  unfold needOK
  simp only [Bool.and_eq_true, decide_eq_true_eq, bne_iff_ne]
  constructor
  · rintro ⟨⟨⟨⟨⟨h1, h2⟩, h3⟩, h4⟩, h5⟩, h6⟩; exact ⟨h1, ⟨h2, h3⟩, ⟨h4, h5⟩, h6⟩
  · rintro ⟨h1, ⟨h2, h3⟩, ⟨h4, h5⟩, h6⟩; exact ⟨⟨⟨⟨⟨h1, h2⟩, h3⟩, h4⟩, h5⟩, h6⟩
theorem R4_zero (n : Nat) : R4 n (List.replicate n (SRect.row ⟨0, 0, 0, 0⟩)) := ⟨List.length_replicate, fun w hw => by rw [(List.mem_replicate.1 hw).2]; rfl⟩
theorem Need_spec (a : SRect) (l res : Int) (win : SRect) (k : Int) : spec_F0 a l res win k some = some (V.data SRect.sh (m_F0 a l res win k)) := by
  have hguard : needOK a l res k = false -> (bif (!m_H1 a) == false then (bif (bif (bif (bif !m_A4 l then true else decide (res < 0)) then true else decide (res > l)) then true else (m_F2 k == 0)) then true else false) else true) = true := by
    intro hg
    rw [<- Bool.not_eq_true, needOK_iff] at hg
    cases hv : m_H1 a with
    | false => rfl
    | true =>
      cases hlv : m_A4 l with
      | false => rfl
      | true =>
        have hl := validLevels_iff.1 hlv
        by_cases h1 : res < 0
        · simp only [decide_eq_true h1]; rfl
        · by_cases h2 : res > l
          · simp only [decide_eq_false h1, decide_eq_true h2]; rfl
          · by_cases h3 : m_F2 k = 0
            · simp only [decide_eq_false h1, decide_eq_false h2, h3]; rfl
            · exact absurd ⟨hv, hl, by omega, h3⟩ hg
  unfold spec_F0 m_F0
  cases hok : needOK a l res k with
  | false =>
    have hg := hguard hok
    cases hv : m_H1 a with
    | false => rfl
    | true =>
      rw [hv] at hg
      simp only [Bool.not_true, beq_self_eq_true, cond_true] at hg ⊢
      cases hb : (bif (bif (bif !m_A4 l then true else decide (res < 0)) then true else decide (res > l)) then true else (m_F2 k == 0)) with
      | false => rw [hb] at hg; cases hg
      | true => rfl
  | true =>
    obtain ⟨hv, hl, hr, hk⟩ := needOK_iff.1 hok
    have d1 : ¬ res < 0 := by omega
    have d2 : ¬ res > l := by omega
    have hcnt : m_D9 l = 3 * l + 1 := by rw [pyramid_Count_eq, if_pos hl]
    simp only [hv, validLevels_iff.2 hl, decide_eq_false d1, decide_eq_false d2, beq_eq_false_iff_ne.2 hk, Bool.not_true, beq_self_eq_true, cond_true, cond_false, hcnt]
    have b1 : (0 : Int) <= 3 * l + 1 := by omega
    have b2 : 3 * l + 1 <= 3 * l + 1 := Int.le_refl _
    have b3 : (3 * l + 1) * 32 <= 140737488355328 := by omega
    have b4 : 3 * l + 1 <= 140737488355328 := by omega
    simp only [decide_eq_true b1, decide_eq_true b2, decide_eq_true b3, decide_eq_true b4, Bool.and_true, cond_true]
    show (bif m_H2 (m_C6 win (m_A6 a l res)) then some (V.data SRect.sh (List.replicate (3 * l + 1).toNat (SRect.row ⟨0, 0, 0, 0⟩))) else _) = _
    cases he : m_H2 (m_C6 win (m_A6 a l res)) with
    | true => rfl
    | false =>
      simp only [cond_false]
      have hm := Margin_bd k
      have hres : ((res.toNat : Nat) : Int) = res := by omega
      have key := Need_loop a l (m_F2 k) hl hm (fun z g => bif inR 0 z.length then some (V.data SRect.sh (z.set 0 (setCells (z.getD 0 []) 0 (SRect.row g)))) else none) res.toNat (fuel_F0_0 l (m_F2 k) res a (List.replicate (3 * l + 1).toNat (SRect.row ⟨0, 0, 0, 0⟩)) (m_C6 win (m_A6 a l res))) (List.replicate (3 * l + 1).toNat (SRect.row ⟨0, 0, 0, 0⟩)) (m_C6 win (m_A6 a l res)) (by
        show _ <= Int.toNat (res - 0) + 1
        omega) (by omega) (R4_zero _) (with_res _ _ _ _)
      rw [hres] at key
      refine key.trans ?_
      have hq := (needN_ok a l (m_F2 k) res.toNat _ _ (m_C6 win (m_A6 a l res)) (R4_zero (3 * l + 1).toNat) (with_res _ _ _ _)).1
      have hi : inR 0 (needN a l (m_F2 k) res.toNat (List.replicate (3 * l + 1).toNat (SRect.row ⟨0, 0, 0, 0⟩)) (m_C6 win (m_A6 a l res))).1.length = true := inR_of (Int.le_refl 0) (by rw [hq.1]; omega)
      simp only [hi, cond_true]
      rw [setCells4 _ (hq.at (by omega))]
theorem good_F0_of (h1 : G_H1) (h2 : G_H2) (h3 : G_C6) (h4 : G_A6) (h5 : G_F2) (h6 : G_A4) (h7 : G_D9) (h8 : G_J1) : G_F0 := by
  refine mk_F0 ?_ ?_ ?_ ?_ ?_ ?_ ?_ ?_ (fun a l r w k _ => Need_spec a l r w k) <;> assumption
theorem agree_self (x : Option R) : agree x x = x := by
  unfold agree; rw [if_pos rfl]
theorem good_A0_of : G_A0 := mk_A0 fun a hp _ => by
  unfold pre_A0 at hp
  unfold spec_A0 m_A0
  cases a with
  | nil => simp only [hp, cond_true]; exact agree_self _
  | cons x l => simp only [hp, cond_true]; rfl
theorem good_A1_of : G_A1 := mk_A1 fun a hp _ => by
  unfold pre_A1 at hp
  unfold spec_A1 m_A1
  cases a with
  | nil => simp only [hp, cond_true]; exact agree_self _
  | cons x l => simp only [hp, cond_true]; rfl
theorem good_A2_of : G_A2 := mk_A2 fun a hp _ => by
  unfold pre_A2 at hp
  unfold spec_A2 m_A2
  cases a with
  | nil => simp only [hp, cond_true]; exact agree_self _
  | cons x l => simp only [hp, cond_true]; rfl
def noParams : SParams := SParams.mk (0 : Int) (0 : Int) (0 : Int) (0 : Int) (0 : Int) [] (0 : Int) (0 : Int) (SMode.mk false false false false false) false false false [] (0 : Int) (0 : Int)
theorem clone_pre {h : SHeader} (hn : h.Components.length <= 4) : pre_E8 h noParams = true := by
  unfold pre_E8
  have e1 : pre_A0 h.Components = true := room_of (by omega)
  have e2 : pre_A1 noParams.Precincts = true := by decide
  have e3 : pre_A2 noParams.Steps = true := by decide
  rw [e1, e2, e3]; rfl
theorem clone_eq {h : SHeader} (hn : h.Components.length <= 4) : m_E8 h noParams = (h, noParams) := by
  unfold m_E8
  have e1 : pre_A0 h.Components = true := room_of (by omega)
  have e2 : pre_A1 noParams.Precincts = true := by decide
  have e3 : pre_A2 noParams.Steps = true := by decide
  rw [e1, e2, e3]; rfl
theorem check_comps {h : SHeader} {p : SParams} (hc : m_E2 h p = 0) : h.Components.length <= 4 := (head_comps (check_ok hc).1).2
theorem Reduced_pre (h : SHeader) (p : SParams) (v : SView) : pre_B7 h p v = true := by
  unfold pre_B7
  by_cases hc : m_E2 h p = 0
  · have hcl := clone_pre (check_comps hc)
    unfold noParams at hcl
    simp only [hc, hcl, wrapu_nonneg, decide_true, cond_true, bne_self_eq_false, cond_false, Bool.cond_self]
  · have hne := bne_iff_ne.2 hc
    simp only [hne, cond_true]
theorem Reduced_ok {h : SHeader} {p : SParams} {v : SView} (hz : (m_B7 h p v).2 = 0) : m_E2 h p = 0 /\ (0 <= v.Layers /\ v.Layers <= 16) /\ 0 <= v.Drop /\ v.Drop <= p.Levels := by
  unfold m_B7 at hz
  by_cases hc : m_E2 h p = 0
  · refine ⟨hc, ?_⟩
    simp only [hc, bne_self_eq_false, cond_false] at hz
    cases hb : (bif (bif (bif decide (v.Layers < 0) then true else decide (v.Layers > 16)) then true else decide (v.Drop < 0)) then true else decide (v.Drop > p.Levels)) with
    | true => rw [hb] at hz; simp only [cond_true] at hz; exact absurd hz (by decide)
    | false =>
      have e : ∀ (a b : Bool), (bif a then true else b) = (a || b) := by intro a b; cases a <;> rfl
      simp only [e, Bool.or_eq_false_iff, decide_eq_false_iff_not] at hb
      omega
  · have hne := bne_iff_ne.2 hc
    simp only [hne, cond_true] at hz
    exact absurd hz hc
theorem R24_Packets_pre (h : SHeader) (p : SParams) (t : Int) : pre_F5 h p t = true := by
  unfold pre_F5
  rw [R24_ValidTile_eq, R24_Tiles_eq]
  cases he : m_D7 h p t 0 with
  | false => rfl
  | true =>
    obtain ⟨hc, ht, _⟩ := exists_iff.1 he
    obtain ⟨_, _, hn, _, _⟩ := check_ok hc
    have hL := (numB_iff hn).1
    have hp : pre_G1 h p (SRect.of (List.getD (m_E7 h) t.toNat [])) = true := by
      unfold pre_G1
      have := check_comps hc
      rw [Nat.ble_eq_true_of_le (by omega), decide_eq_true hL.2, Bool.and_self, Bool.true_and, List.all_eq_true]
      intro res hr
      have hrb := mem_rngI.1 hr
      have hb := Precinct_bd hn hrb.1 (by omega)
      rw [decide_eq_true (show 0 <= (m_B5 p res).X by omega), decide_eq_true (show 0 <= (m_B5 p res).Y by omega)]
      rfl
    simp only [inR_of ht.1 ht.2, hp, Bool.not_true, cond_false, cond_true]
theorem eqT_id (a b : SBlockID) : eqT Try.prog 8 ty_api_BlockID (SBlockID.v a) (SBlockID.v b) = some ((a.Comp == b.Comp) && ((a.Res == b.Res) && ((a.Band == b.Band) && ((a.Precinct == b.Precinct) && ((a.Index == b.Index) && (((a.Rect.X0 == b.Rect.X0) && ((a.Rect.Y0 == b.Rect.Y0) && ((a.Rect.X1 == b.Rect.X1) && ((a.Rect.Y1 == b.Rect.Y1) && true)))) && true)))))) := by kernel_rfl
theorem eqv_id (a b : SBlockID) : V.eqv (SBlockID.v a) (SBlockID.v b) = ((a.Comp == b.Comp) && ((a.Res == b.Res) && ((a.Band == b.Band) && ((a.Precinct == b.Precinct) && ((a.Index == b.Index) && ((a.Rect.X0 == b.Rect.X0) && ((a.Rect.Y0 == b.Rect.Y0) && ((a.Rect.X1 == b.Rect.X1) && ((a.Rect.Y1 == b.Rect.Y1) && true))))))))) := rfl
theorem eqT_eqv (a b : SBlockID) : eqT Try.prog 8 ty_api_BlockID (SBlockID.v a) (SBlockID.v b) = some (V.eqv (SBlockID.v a) (SBlockID.v b)) := by
  rw [eqT_id, eqv_id]
  simp only [Bool.and_true]
theorem eqv_iff {a b : SBlockID} : V.eqv (SBlockID.v a) (SBlockID.v b) = true ↔ a = b := by
  rw [eqv_id]
  obtain ⟨a1, a2, a3, a4, a5, ⟨a6, a7, a8, a9⟩⟩ := a
  obtain ⟨b1, b2, b3, b4, b5, ⟨b6, b7, b8, b9⟩⟩ := b
  simp only [Bool.and_eq_true, beq_iff_eq, and_true, SBlockID.mk.injEq, SRect.mk.injEq]
def ent (l : Rows) (i : Int) : List V := [SBlockID.v (SBlockID.of (List.getD l i.toNat [])), V.int .i64 i]
theorem ent_head (l : Rows) (i : Int) : (ent l i).headD V.undef = SBlockID.v (SBlockID.of (List.getD l i.toNat [])) := rfl
theorem keyOK_ent (l : Rows) (L : List Int) (a : SBlockID) : keyOK Try.prog ty_api_BlockID (SBlockID.v a) (L.map (ent l)) = true := by
  unfold keyOK
  rw [eqT_eqv, Option.isSome_some, Bool.true_and, List.all_eq_true]
  intro r hr
  obtain ⟨i, _, rfl⟩ := List.mem_map.1 hr
  rw [ent_head, eqT_eqv]
  exact beq_self_eq_true _
def idAt (l : Rows) (i : Int) : SBlockID := SBlockID.of (List.getD l i.toNat [])
theorem idAt_inj {l : Rows} (hd : l.Pairwise Diff) {i j : Int} (hi : 0 <= i /\ i < (l.length : Int)) (hj : 0 <= j /\ j < (l.length : Int)) (h : idAt l i = idAt l j) : i = j := by
  have h1 : i.toNat < l.length := by omega
  have h2 : j.toNat < l.length := by omega
  unfold idAt at h
  rw [List.getD_eq_getElem?_getD, List.getD_eq_getElem?_getD, List.getElem?_eq_getElem h1, List.getElem?_eq_getElem h2] at h
  have hp := List.pairwise_iff_getElem.1 hd
  rcases Nat.lt_trichotomy i.toNat j.toNat with hlt | heq | hgt
  · exact absurd h (hp _ _ h1 h2 hlt)
  · omega
  · exact absurd h.symm (hp _ _ h2 h1 hgt)
theorem eqv_ent {l : Rows} (hd : l.Pairwise Diff) {i j : Int} (hi : 0 <= i /\ i < (l.length : Int)) (hj : 0 <= j /\ j < (l.length : Int)) : V.eqv (SBlockID.v (idAt l i)) (SBlockID.v (idAt l j)) = decide (j = i) := by
  rw [Bool.eq_iff_iff, eqv_iff, decide_eq_true_eq]
  exact ⟨fun h => (idAt_inj hd hi hj h).symm, fun h => by rw [h]⟩
theorem mapFind_none {key : V} : ∀ {rows : List (List V)}, (∀ r ∈ rows, V.eqv key (r.headD V.undef) = false) -> mapFind key rows = none
  | [], _ => rfl
  | r :: rows, h => by
    unfold mapFind
    rw [h r (List.mem_cons_self ..), mapFind_none fun x hx => h x (List.mem_cons_of_mem _ hx)]
    rfl
theorem mapPut_new {key val : V} {rows : List (List V)} (h : ∀ r ∈ rows, V.eqv key (r.headD V.undef) = false) : mapPut rows key val = rows ++ [[key, val]] := by
  unfold mapPut
  rw [mapFind_none h]
theorem filter_all {α : Type} {p : α -> Bool} : ∀ {l : List α}, (∀ x ∈ l, p x = true) -> l.filter p = l
  | [], _ => rfl
  | x :: l, h => by rw [List.filter_cons_of_pos (h x (List.mem_cons_self ..)), filter_all fun y hy => h y (List.mem_cons_of_mem _ hy)]
theorem mapDel_ent {l : Rows} {key : V} {i : Int} : ∀ {L : List Int}, L.Pairwise (fun x y => x ≠ y) -> (∀ j ∈ L, V.eqv key (SBlockID.v (idAt l j)) = decide (j = i)) -> mapDel (L.map (ent l)) key = (L.filter fun j => !decide (j = i)).map (ent l)
  | [], _, _ => rfl
  | j :: L, hp, h => by
    have hp' := List.pairwise_cons.1 hp
    have hj := h j (List.mem_cons_self ..)
    have ih := mapDel_ent hp'.2 fun x hx => h x (List.mem_cons_of_mem _ hx)
    have hf : mapFind key ((j :: L).map (ent l)) = bif decide (j = i) then some 0 else (mapFind key (L.map (ent l))).map (· + 1) := by
      rw [<- hj]; rfl
    unfold mapDel at ih ⊢
    rw [hf]
    by_cases he : j = i
    · rw [decide_eq_true he]
      show L.map (ent l) = _
      rw [List.filter_cons_of_neg (by simp [he]), filter_all]
      intro x hx
      have := hp'.1 x hx
      simp only [Bool.not_eq_true', decide_eq_false_iff_not]
      omega
    · rw [decide_eq_false he, List.filter_cons_of_pos (by simp [he])]
      cases hm : mapFind key (L.map (ent l)) with
      | none =>
        rw [hm] at ih
        show (j :: L).map (ent l) = _
        rw [List.map_cons, List.map_cons, <- ih]
      | some k =>
        rw [hm] at ih
        show ((j :: L).map (ent l)).eraseIdx (k + 1) = _
        rw [List.map_cons, List.map_cons, <- ih]
        rfl
theorem pw_filter {L : List Int} (h : L.Pairwise fun x y => x ≠ y) (p : Int -> Bool) : (L.filter p).Pairwise fun x y => x ≠ y := h.sublist List.filter_sublist
theorem rngI_lt {n : Int} {j : Int} (h : j ∈ rngI 0 n) : 0 <= j /\ j < n := mem_rngI.1 h
theorem blocks_0 (tile : Int) (l : Rows) (h : SHeader) (p : SParams) (v : SView) (hd : l.Pairwise Diff) (hl : l.length <= 1099511627776) (e : Rows -> Option R) (m : Nat) (hm : ((l.length : Int) - 0).toNat + 1 <= m) :
    loop_D4_0 tile l (l.length : Int) h p v m 0 [] (fun _ z => e z) = e ((rngI 0 (l.length : Int)).map (ent l)) := by
  refine (loop_foldB (b := (l.length : Int)) (L := fun n i s => loop_D4_0 tile l (l.length : Int) h p v n i s (fun _ z => e z)) (g := fun s i => s ++ [ent l i]) (e := e) (fun i t => 0 <= i /\ t = (rngI 0 i).map (ent l)) ?_ ?_ m 0 [] ⟨Int.le_refl 0, rfl⟩ hm).trans ?_
  · intro n i t ⟨h0, hb⟩
    show step_D4_0 tile l (l.length : Int) h p v i t _ _ = _
    unfold step_D4_0
    by_cases hi : i < (l.length : Int)
    · subst hb
      simp only [decide_eq_true hi, cond_true, inR_of h0 hi, keyOK_ent, Bool.and_true]
      rw [w64 (n := i + 1) (by omega) (by omega), mapPut_new (rows := (rngI 0 i).map (ent l))]
      · rfl
      · intro r hr
        obtain ⟨j, hj, rfl⟩ := List.mem_map.1 hr
        have hj := rngI_lt hj
        rw [ent_head]
        refine (eqv_ent hd ⟨h0, hi⟩ ⟨hj.1, by omega⟩).trans ?_
        exact decide_eq_false (by omega)
    · simp only [decide_eq_false hi, cond_false]
  · intro i t ⟨h0, hb⟩ hi
    refine ⟨by omega, ?_⟩
    rw [hb, rngI_snoc (by omega), List.map_append]
    rfl
  · rw [foldl_snoc, List.nil_append]
def needAt (h : SHeader) (p : SParams) (tile d : Int) (v : SView) (part : SRect) (c : Int) : List V := [V.data SRect.sh (m_F0 (m_B0 h tile c) p.Levels (IntKind.wrap .i64 (p.Levels - v.Drop)) (m_F4 (compRect part (List.getD h.Components c.toNat [])) d d) p.Kernel)]
theorem blocks_2 (tile d : Int) (h : SHeader) (p : SParams) (v : SView) (z0 : Rows) (part : SRect) (hc : h.Components.length <= 4) (e : Rows -> Option R) (m : Nat) (hm : ((h.Components.length : Int) - 0).toNat + 1 <= m) :
    loop_D4_2 tile d h.Components (h.Components.length : Int) h p v z0 part m 0 [] (fun _ z => e z) = e ((rngI 0 (h.Components.length : Int)).map (needAt h p tile d v part)) := by
  refine (loop_foldB (b := (h.Components.length : Int)) (L := fun n i s => loop_D4_2 tile d h.Components (h.Components.length : Int) h p v z0 part n i s (fun _ z => e z)) (g := fun s i => s ++ [needAt h p tile d v part i]) (e := e) (fun i t => 0 <= i /\ t.length <= i.toNat) ?_ ?_ m 0 [] ⟨Int.le_refl 0, Nat.zero_le _⟩ hm).trans ?_
  · intro n i t ⟨h0, hb⟩
    show step_D4_2 tile d h.Components (h.Components.length : Int) h p v z0 part i t _ _ = _
    unfold step_D4_2
    by_cases hi : i < (h.Components.length : Int)
    · have hroom : roomOK (t.length + 1) 24 = true := room_of (by omega)
      simp only [decide_eq_true hi, cond_true, inR_of h0 hi, hroom]
      rw [w64 (n := i + 1) (by omega) (by omega)]
      rfl
    · simp only [decide_eq_false hi, cond_false]
  · intro i t ⟨h0, hb⟩ hi
    refine ⟨by omega, ?_⟩
    rw [List.length_append]
    show t.length + 1 <= _
    omega
  · rw [foldl_snoc, List.nil_append]
theorem blocks_4 (l need : Rows) (ok : Int -> Bool) (hd : l.Pairwise Diff) (hl : l.length <= 1099511627776)
    (hr : ∀ i, 0 <= i -> i < (l.length : Int) -> inR (idAt l i).Comp need.length = true /\ inR (idAt l i).Band (V.toRows (List.getD (List.getD need (Int.toNat (idAt l i).Comp) []) 0 V.undef)).length = true)
    (hok : ∀ i, 0 <= i -> i < (l.length : Int) -> m_H2 (m_C6 (idAt l i).Rect (SRect.of (List.getD (V.toRows (List.getD (List.getD need (Int.toNat (idAt l i).Comp) []) 0 V.undef)) (Int.toNat (idAt l i).Band) []))) = !ok i)
    (e : Rows -> Option R) (m : Nat) (hm : ((l.length : Int) - 0).toNat + 1 <= m) :
    loop_D4_4 l (l.length : Int) need m 0 ((rngI 0 (l.length : Int)).map (ent l)) (fun _ z => e z) = e (((rngI 0 (l.length : Int)).filter ok).map (ent l)) := by
  have key : ∀ (n : Nat) (i : Int), 0 <= i -> i <= (l.length : Int) -> ((l.length : Int) - i).toNat + 1 <= n ->
      loop_D4_4 l (l.length : Int) need n i (((rngI 0 (l.length : Int)).filter fun j => decide (i <= j) || ok j).map (ent l)) (fun _ z => e z) = e (((rngI 0 (l.length : Int)).filter ok).map (ent l)) := by
    intro n
    induction n with
    | zero => intro i _ _ hn; omega
    | succ n ih =>
      intro i h0 h1 hn
      show step_D4_4 l (l.length : Int) need i _ (fun i s => loop_D4_4 l (l.length : Int) need n i s (fun _ z => e z)) (fun _ z => e z) = _
      unfold step_D4_4
      by_cases hi : i < (l.length : Int)
      · obtain ⟨r1, r2⟩ := hr i h0 hi
        have hk := hok i h0 hi
        unfold idAt at r1 r2 hk
        simp only [decide_eq_true hi, cond_true, inR_of h0 hi, r1, r2, hk, keyOK_ent, Bool.and_true]
        rw [w64 (n := i + 1) (by omega) (by omega)]
        have ihn := ih (i + 1) (by omega) (by omega) (by omega)
        cases hoki : ok i with
        | true =>
          simp only [Bool.not_true, cond_false]
          rw [<- ihn]
          congr 2
          apply List.filter_congr
          intro j hj
          by_cases hji : j = i
          · subst hji
            rw [hoki, Bool.or_true, Bool.or_true]
          · congr 1
            rw [decide_eq_decide]
            omega
        | false =>
          simp only [Bool.not_false, cond_true]
          rw [mapDel_ent (i := i) (pw_filter (rngI_nodup _ _) _) (fun j hj => by
            have hj := rngI_lt (List.mem_filter.1 hj).1
            exact eqv_ent hd ⟨h0, hi⟩ hj), <- ihn, List.filter_filter]
          congr 2
          apply List.filter_congr
          intro j hj
          by_cases hji : j = i
          · subst hji
            have d1 : ¬ (j + 1 <= j) := by omega
            rw [hoki, decide_eq_false d1, decide_eq_true rfl]
            rfl
          · rw [decide_eq_false hji, Bool.not_false, Bool.true_and]
            congr 1
            rw [decide_eq_decide]
            omega
      · have hie : i = (l.length : Int) := by omega
        simp only [decide_eq_false hi, cond_false]
        congr 2
        apply List.filter_congr
        intro j hj
        have := rngI_lt hj
        have d1 : ¬ i <= j := by omega
        rw [decide_eq_false d1, Bool.false_or]
  have h0 := key m 0 (Int.le_refl 0) (by omega) hm
  rw [filter_all (l := rngI 0 (l.length : Int))] at h0
  · exact h0
  · intro j hj
    rw [decide_eq_true (rngI_lt hj).1, Bool.true_or]
theorem getD_rng {α : Type} (f : Int -> α) (n c : Int) (d : α) (h0 : 0 <= c) (h1 : c < n) : List.getD ((rngI 0 n).map f) c.toNat d = f c := by
  unfold rngI
  have : c.toNat < (n - 0).toNat := by omega
  rw [List.map_map, List.getD_eq_getElem?_getD, List.getElem?_map, List.getElem?_range this]
  show f (0 + (c.toNat : Int)) = f c
  congr 1
  omega
theorem All_mem {h : SHeader} {p : SParams} {tile : Int} {w : List V} (hw : w ∈ m_G6 h p tile) : (0 <= (SBlockID.of w).Comp /\ (SBlockID.of w).Comp < (h.Components.length : Int)) /\ 0 <= (SBlockID.of w).Band /\ (SBlockID.of w).Band <= 3 * p.Levels := by
  unfold m_G6 at hw
  cases he : m_D7 h p tile 0 with
  | false => rw [he] at hw; exact absurd hw List.not_mem_nil
  | true =>
    rw [he, cond_true] at hw
    obtain ⟨hc, _, _⟩ := exists_iff.1 he
    obtain ⟨_, _, hn, _, _⟩ := check_ok hc
    have hL := (numB_iff hn).1
    obtain ⟨comp, hcomp, hw⟩ := List.mem_flatMap.1 hw
    obtain ⟨res, hres, hw⟩ := List.mem_flatMap.1 hw
    obtain ⟨k, _, hw⟩ := List.mem_flatMap.1 hw
    have hrb := rngI_lt hres
    have hcb := rngI_lt hcomp
    unfold m_B8 m_A7 at hw
    obtain ⟨b, hb, hw⟩ := List.mem_flatMap.1 hw
    obtain ⟨b0, b1, _⟩ := Indices_mem hL hrb.1 (show res <= p.Levels by omega) hb
    obtain ⟨m1, _, m3, _⟩ := idRows_mem hw
    rw [m1, m3]
    exact ⟨hcb, b0, b1⟩
theorem All_at {h : SHeader} {p : SParams} {tile i : Int} (h0 : 0 <= i) (h1 : i < ((m_G6 h p tile).length : Int)) : (0 <= (idAt (m_G6 h p tile) i).Comp /\ (idAt (m_G6 h p tile) i).Comp < (h.Components.length : Int)) /\ 0 <= (idAt (m_G6 h p tile) i).Band /\ (idAt (m_G6 h p tile) i).Band <= 3 * p.Levels := by
  have hi : i.toNat < (m_G6 h p tile).length := by omega
  unfold idAt
  rw [List.getD_eq_getElem?_getD, List.getElem?_eq_getElem hi]
  exact All_mem (List.getElem_mem hi)
theorem Component_valid (h : SHeader) (t c : Int) : m_H1 (m_B0 h t c) = true := by
  have hc : ∀ (b : Bool) (x y : SRect), m_H1 x = true -> m_H1 y = true -> m_H1 (bif b then x else y) = true := by
    intro b x y hx hy
    cases b
    · exact hy
    · exact hx
  have hz : m_H1 ⟨0, 0, 0, 0⟩ = true := zero_valid
  have hdef : m_H1 (default : SRect) = true := by decide
  unfold m_B0
  simp only []
  repeat' (first | with_reducible exact hz | with_reducible exact hdef | with_reducible exact Reduce_valid _ _ _ | with_reducible refine hc _ _ _ ?_ ?_)
theorem Need_length (a : SRect) (l res : Int) (win : SRect) (k : Int) (h : needOK a l res k = true) : R4 (3 * l + 1).toNat (m_F0 a l res win k) := by
  unfold m_F0
  rw [h, cond_true]
  simp only []
  cases he : m_H2 (m_C6 win (m_A6 a l res)) with
  | true => exact R4_zero _
  | false => exact ((needN_ok a l (m_F2 k) res.toNat _ _ _ (R4_zero (3 * l + 1).toNat) (with_res _ _ _ _)).1).set _ _
theorem kind_margin {p : SParams} (h : kindB p = true) : m_F2 p.Kernel ≠ 0 := by
  unfold kindB at h
  simp only [Bool.and_eq_true] at h
  have hk := inB_iff.1 h.1.1
  have : p.Kernel = 1 \/ p.Kernel = 2 \/ p.Kernel = 3 := by omega
  rcases this with e | e | e <;> rw [e] <;> decide
theorem All_length {h : SHeader} {p : SParams} {tile : Int} : (m_G6 h p tile).length <= 1099511627776 := by
  cases he : m_D7 h p tile 0 with
  | false => unfold m_G6; rw [he]; exact Nat.zero_le _
  | true =>
    obtain ⟨hc, _, _⟩ := exists_iff.1 he
    obtain ⟨hh, _, hn, _, _⟩ := check_ok hc
    have hL := (numB_iff hn).1
    have h4 := head_comps hh
    rw [<- RAll_lists he]
    have := flatMap_rng_le (cRows h p tile) 77309411328 0 (h.Components.length : Int) fun i => cRows_length h hL tile i
    have h5 : ((h.Components.length : Int) - 0).toNat <= 4 := by omega
    have := Nat.mul_le_mul_right 77309411328 h5
    omega
theorem blocks_law {h : SHeader} {p : SParams} {tile : Int} {v : SView} (he : m_D7 h p tile 0 = true) (hd : 0 <= v.Drop /\ v.Drop <= p.Levels) {i : Int} (h0 : 0 <= i) (h1 : i < ((m_G6 h p tile).length : Int)) :
    needOK (m_B0 h tile (idAt (m_G6 h p tile) i).Comp) p.Levels (IntKind.wrap .i64 (p.Levels - v.Drop)) p.Kernel = true := by
  obtain ⟨hc, _, _⟩ := exists_iff.1 he
  obtain ⟨_, hk, hn, _, _⟩ := check_ok hc
  have hL := (numB_iff hn).1
  rw [w64 (n := p.Levels - v.Drop) (by omega) (by omega)]
  exact needOK_iff.2 ⟨Component_valid _ _ _, hL, by omega, kind_margin hk⟩
theorem blocks_range {h : SHeader} {p : SParams} {tile : Int} {v : SView} (he : m_D7 h p tile 0 = true) (hd : 0 <= v.Drop /\ v.Drop <= p.Levels) {i : Int} (h0 : 0 <= i) (h1 : i < ((m_G6 h p tile).length : Int)) :
    inR (idAt (m_G6 h p tile) i).Comp ((rngI 0 (h.Components.length : Int)).map (needAt h p tile (dropD v) v (partOf h tile v))).length = true /\
    V.toRows (List.getD (List.getD ((rngI 0 (h.Components.length : Int)).map (needAt h p tile (dropD v) v (partOf h tile v))) (Int.toNat (idAt (m_G6 h p tile) i).Comp) []) 0 V.undef) = needOf h p tile v (idAt (m_G6 h p tile) i).Comp /\
    inR (idAt (m_G6 h p tile) i).Band (needOf h p tile v (idAt (m_G6 h p tile) i).Comp).length = true := by
  obtain ⟨hcomp, hb0, hb1⟩ := All_at h0 h1
  refine ⟨inR_of hcomp.1 (by rw [List.length_map, length_rngI]; omega), ?_, inR_of hb0 ?_⟩
  · rw [getD_rng _ _ _ _ hcomp.1 hcomp.2]
    rfl
  · unfold needOf
    have := (Need_length _ _ _ (m_F4 (compRect (partOf h tile v) (List.getD h.Components (idAt (m_G6 h p tile) i).Comp.toNat [])) (dropD v) (dropD v)) _ (blocks_law he hd h0 h1)).1
    omega
theorem blocks_spec (h : SHeader) (p : SParams) (tile : Int) (v : SView) (hp : pre_D4 h p tile v = true) : spec_D4 h p tile v some = some (V.mdat (m_D4 h p tile v)) := by
  unfold pre_D4 at hp
  rw [Bool.and_eq_true, Bool.and_eq_true, decide_eq_true_eq, decide_eq_true_eq] at hp
  obtain ⟨⟨he, hd0⟩, hd1⟩ := hp
  obtain ⟨hc, ht, _⟩ := exists_iff.1 he
  have h4 := check_comps hc
  unfold spec_D4
  refine (blocks_0 tile (m_G6 h p tile) h p v (All_diff h p tile) All_length (fun z => _) _ (Nat.le_refl _)).trans ?_
  have hlast := blocks_4 (R := V) (m_G6 h p tile) ((rngI 0 (h.Components.length : Int)).map (needAt h p tile (dropD v) v (partOf h tile v))) (fun i => blockNeeded h p tile v (idAt (m_G6 h p tile) i)) (All_diff h p tile) All_length
    (fun i h0 h1 => by
      obtain ⟨r1, r2, r3⟩ := blocks_range he ⟨hd0, hd1⟩ h0 h1
      exact ⟨r1, by rw [r2]; exact r3⟩)
    (fun i h0 h1 => by
      obtain ⟨r1, r2, r3⟩ := blocks_range he ⟨hd0, hd1⟩ h0 h1
      rw [r2]
      unfold blockNeeded
      rw [Bool.not_not])
    (fun z => some (V.mdat z)) _ (Nat.le_refl _)
  have hlast : loop_D4_4 (m_G6 h p tile) ((m_G6 h p tile).length : Int) ((rngI 0 (h.Components.length : Int)).map (needAt h p tile (dropD v) v (partOf h tile v))) (((m_G6 h p tile).length : Int) - 0).toNat.succ 0 ((rngI 0 ((m_G6 h p tile).length : Int)).map (ent (m_G6 h p tile))) (fun _ z => some (V.mdat z)) = some (V.mdat (m_D4 h p tile v)) := hlast
  simp only [inR_of ht.1 ht.2, cond_true, wrapu_nonneg, decide_true]
  cases hw : ((v.Window.X0 == (0 : Int)) && ((v.Window.Y0 == (0 : Int)) && ((v.Window.X1 == (0 : Int)) && ((v.Window.Y1 == (0 : Int)) && true)))) with
  | true =>
    have hpart : partOf h tile v = SRect.of (List.getD (m_E7 h) tile.toNat []) := by
      unfold partOf isWhole; rw [hw]; rfl
    rw [hpart] at hlast
    simp only [Bool.not_true, cond_false]
    exact (blocks_2 tile (dropD v) h p v _ _ h4 (fun z => _) _ (Nat.le_refl _)).trans hlast
  | false =>
    have hpart : partOf h tile v = m_C6 (SRect.of (List.getD (m_E7 h) tile.toNat [])) v.Window := by
      unfold partOf isWhole; rw [hw]; rfl
    rw [hpart] at hlast
    simp only [Bool.not_false, cond_true]
    exact (blocks_2 tile (dropD v) h p v _ _ h4 (fun z => _) _ (Nat.le_refl _)).trans hlast
theorem good_D4_of (h1 : G_G6) (h2 : G_E7) (h3 : G_H2) (h4 : G_C6) (h5 : G_F4) (h6 : G_F0) (h7 : G_B0) : G_D4 := by
  refine mk_D4 ?_ ?_ ?_ ?_ ?_ ?_ ?_ (fun h p t v hp _ => blocks_spec h p t v hp) <;> assumption
theorem left_less {n i : Nat} {seen : List Nat} (h : i ∈ leftI n seen) : (leftI n (i :: seen)).length < (leftI n seen).length := by
  have e : leftI n (i :: seen) = (leftI n seen).filter fun j => !(j == i) := by
    unfold leftI
    rw [List.filter_filter]
    apply List.filter_congr
    intro j _
    rw [List.contains_cons, Bool.not_or]
  rw [e]
  refine List.length_filter_lt_length_iff_exists.2 ⟨i, h, ?_⟩
  simp
theorem left_mem {n i : Nat} {seen : List Nat} : i ∈ leftI n seen ↔ i < n /\ ¬ i ∈ seen := by
  unfold leftI
  rw [List.mem_filter, List.mem_range]
  simp
def marks (n : Int) (K : List Int) (seen : List Nat) : Rows := (rngI 0 n).map fun j => [V.bool (seen.any fun i => decide (List.getD K i (-1) = j))]
theorem marks_length (n : Int) (K : List Int) (seen : List Nat) : (marks n K seen).length = n.toNat := by
  unfold marks
  rw [List.length_map, length_rngI]
  omega
theorem marks_set (n : Int) (K : List Int) (seen : List Nat) (i : Nat) (h0 : 0 <= List.getD K i (-1)) : (marks n K seen).set (List.getD K i (-1)).toNat [V.bool true] = marks n K (i :: seen) := by
  apply List.ext_getElem
  · rw [List.length_set, marks_length, marks_length]
  · intro m h1 h2
    rw [List.getElem_set]
    have hm : m < n.toNat := by rw [marks_length] at h2; exact h2
    unfold marks rngI
    simp only [List.getElem_map, List.getElem_range, List.any_cons]
    by_cases he : (List.getD K i (-1)).toNat = m
    · rw [if_pos he, decide_eq_true (by omega), Bool.true_or]
    · rw [if_neg he, decide_eq_false (by omega), Bool.false_or]
theorem marks_at (n : Int) (K : List Int) (seen : List Nat) (k : Nat) (hk : (k : Int) < n) : ∃ b, List.getD (marks n K seen) k [] = [V.bool b] := by
  have h1 : k < (marks n K seen).length := by rw [marks_length]; omega
  rw [List.getD_eq_getElem?_getD, List.getElem?_eq_getElem h1]
  obtain ⟨j, _, hj⟩ := List.mem_map.1 (show (marks n K seen)[k] ∈ (rngI 0 n).map _ from List.getElem_mem h1)
  exact ⟨_, hj.symm⟩
theorem marks_nil (n : Int) (K : List Int) : marks n K [] = List.replicate n.toNat [V.bool false] := by
  unfold marks
  rw [List.eq_replicate_iff]
  refine ⟨by rw [List.length_map, length_rngI]; omega, fun b hb => ?_⟩
  obtain ⟨j, _, rfl⟩ := List.mem_map.1 hb
  rfl
theorem id_c (a : SBlockID) : OR.c (elemV Try.prog ty_api_BlockID (SBlockID.v a)) = true := by kernel_rfl
theorem int_c (x : Int) : OR.c (elemV Try.prog ty_int (V.int .i64 x)) = true := by kernel_rfl
theorem Needed_loop (l : Rows) (n : Int) (ok : Int -> Bool) (e : Rows -> R) (K : List Int) (hK : K = (rngI 0 n).filter ok) : ∀ (m : Nat) (seen : List Nat), (leftI K.length seen).length + 1 <= m ->
    loop_D2_0 (K.map (ent l)) m (marks n K seen) seen (fun z _ => some (e z)) = some (e ((rngI 0 n).map fun j => [V.bool (ok j)])) := by
  have hKm : ∀ j, j ∈ K ↔ (0 <= j /\ j < n) /\ ok j = true := by
    intro j
    rw [hK, List.mem_filter, mem_rngI]
  have hKat : ∀ i, i < K.length -> List.getD K i (-1) ∈ K := by
    intro i hi
    rw [List.getD_eq_getElem?_getD, List.getElem?_eq_getElem hi]
    exact List.getElem_mem hi
  intro m
  induction m with
  | zero => intro seen hm; omega
  | succ m ih =>
    intro seen hm
    show step_D2_0 (K.map (ent l)) (marks n K seen) seen _ _ = _
    unfold step_D2_0
    rw [List.length_map]
    cases hl : (leftI K.length seen).isEmpty with
    | true =>
      rw [cond_true]
      show some (e (marks n K seen)) = _
      refine congrArg (fun z => some (e z)) ?_
      unfold marks
      apply List.map_congr_left
      intro j hj
      have hjb := rngI_lt hj
      congr 2
      rw [Bool.eq_iff_iff, List.any_eq_true]
      constructor
      · rintro ⟨i, hi, hd⟩
        have hd := of_decide_eq_true hd
        by_cases hik : i < K.length
        · have := hKat i hik
          rw [hd] at this
          exact ((hKm j).1 this).2
        · rw [List.getD_eq_getElem?_getD, List.getElem?_eq_none (by omega)] at hd
          have : (-1 : Int) = j := hd
          omega
      · intro hok
        obtain ⟨i, hi, he⟩ := List.getElem_of_mem ((hKm j).2 ⟨hjb, hok⟩)
        refine ⟨i, ?_, decide_eq_true ?_⟩
        · apply Decidable.byContradiction
          intro hn
          have : i ∈ leftI K.length seen := left_mem.2 ⟨hi, hn⟩
          rw [List.isEmpty_iff.1 hl] at this
          exact absurd this List.not_mem_nil
        · rw [List.getD_eq_getElem?_getD, List.getElem?_eq_getElem hi]
          exact he
    | false =>
      rw [cond_false]
      refine anyOf_eq (fun h => ?_) fun i hi => ?_
      · rw [h] at hl; cases hl
      · have hik := (left_mem.1 hi).1
        have hkm := (hKm _).1 (hKat i hik)
        have hrow : List.getD (K.map (ent l)) i [] = ent l (List.getD K i (-1)) := by
          rw [List.getD_eq_getElem?_getD, List.getElem?_map, List.getD_eq_getElem?_getD, List.getElem?_eq_getElem hik]
          rfl
        have hb : Nat.blt i K.length = true := by
          rw [Nat.blt_eq]; exact hik
        have h1 : OR.c (elemV Try.prog ty_api_BlockID (List.getD (ent l (List.getD K i (-1))) 0 V.undef)) = true := id_c _
        have h2 : OR.c (elemV Try.prog ty_int (List.getD (ent l (List.getD K i (-1))) 1 V.undef)) = true := int_c _
        rw [hrow, h1, h2, hb]
        have hx : V.toInt (List.getD (V.cells (List.getD (ent l (List.getD K i (-1))) 1 V.undef)) 0 V.undef) = List.getD K i (-1) := rfl
        simp only [hx, Bool.and_self, cond_true]
        obtain ⟨b, hbm⟩ := marks_at n K seen (List.getD K i (-1)).toNat (by omega)
        rw [inR_of hkm.1.1 (by rw [marks_length]; omega), cond_true, hbm]
        show loop_D2_0 (K.map (ent l)) m ((marks n K seen).set (List.getD K i (-1)).toNat [V.bool true]) (i :: seen) (fun z _ => some (e z)) = _
        rw [marks_set n K seen i hkm.1.1]
        have := left_less hi
        exact ih (i :: seen) (by omega)
theorem Needed_spec (h : SHeader) (p : SParams) (tile : Int) (v : SView) : spec_D2 h p tile v some = some (V.tup [V.data [.bool] (m_D2 h p tile v).1, V.int .i64 (m_D2 h p tile v).2]) := by
  unfold spec_D2 m_D2
  rw [Reduced_pre, cond_true]
  by_cases hz : (m_B7 h p v).2 = 0
  · have hb : ((m_B7 h p v).2 != 0) = false := by rw [hz]; rfl
    simp only [hb, cond_false]
    by_cases h1 : tile < 0
    · simp only [decide_eq_true h1]; rfl
    · by_cases h2 : tile >= ((m_E7 h).length : Int)
      · simp only [decide_eq_false h1, decide_eq_true h2]; rfl
      · obtain ⟨hc, _, hd⟩ := Reduced_ok hz
        have h4 := head_comps (check_ok hc).1
        have he : m_D7 h p tile 0 = true := exists_iff.2 ⟨hc, ⟨by omega, by omega⟩, by omega, by omega⟩
        have hpre : pre_D4 h p tile v = true := by
          unfold pre_D4
          rw [he, decide_eq_true hd.1, decide_eq_true hd.2]
          rfl
        have hlen := All_length (h := h) (p := p) (tile := tile)
        have b1 : (0 : Int) <= ((m_G6 h p tile).length : Int) := by omega
        have b2 : ((m_G6 h p tile).length : Int) <= ((m_G6 h p tile).length : Int) := Int.le_refl _
        have b3 : ((m_G6 h p tile).length : Int) * 1 <= 140737488355328 := by omega
        have b4 : ((m_G6 h p tile).length : Int) <= 140737488355328 := by omega
        simp only [decide_eq_false h1, decide_eq_false h2, decide_eq_true b1, decide_eq_true b2, decide_eq_true b3, decide_eq_true b4, hpre, Bool.and_self, Bool.or_self, cond_true, cond_false, beq_self_eq_true]
        have key := Needed_loop (R := V) (m_G6 h p tile) ((m_G6 h p tile).length : Int) (fun i => blockNeeded h p tile v (SBlockID.of (List.getD (m_G6 h p tile) i.toNat []))) (fun z => V.tup [V.data [.bool] z, V.int .i64 0]) _ rfl _ [] (Nat.le_refl _)
        rw [marks_nil, <- List.length_map (ent (m_G6 h p tile))] at key
        refine key.trans ?_
        rw [rng_rows (fun w => [V.bool (blockNeeded h p tile v (SBlockID.of w))])]
  · have hb := bne_iff_ne.2 hz
    simp only [hb, cond_true]
theorem good_D2_of (h1 : G_G6) (h2 : G_B7) (h3 : G_E7) (h4 : G_D4) : G_D2 := by
  refine mk_D2 ?_ ?_ ?_ ?_ (fun h p t v _ => Needed_spec h p t v) <;> assumption
theorem foldl_filter {α β : Type} (p : α -> Bool) (f : α -> β) : ∀ (l : List α) (s : List β), l.foldl (fun s x => bif p x then s ++ [f x] else s) s = s ++ (l.filter p).map f
  | [], s => by simp
  | x :: l, s => by
    rw [List.foldl_cons, foldl_filter p f l]
    cases h : p x with
    | true => rw [List.filter_cons_of_pos h, List.map_cons, cond_true, List.append_assoc]; rfl
    | false => rw [List.filter_cons_of_neg (by simp [h]), cond_false]
theorem tiles_length (h : SHeader) : (m_E7 h).length <= 16777216 := by
  unfold m_E7
  simp only []
  cases (m_C9 h != 0) with
  | true => exact Nat.zero_le _
  | false => exact Cells_length _ _ _
def keepT (l : Rows) (w : Bool) (v : SView) (i : Int) : Bool := w || !m_H2 (m_C6 (SRect.of (List.getD l i.toNat [])) v.Window)
theorem Tiles_0 (w : Bool) (l : Rows) (v : SView) (hl : l.length <= 16777216) (e : Rows -> Option R) (m : Nat) (hm : ((l.length : Int) - 0).toNat + 1 <= m) :
    loop_E9_0 w l (l.length : Int) v m 0 [] (fun _ z => e z) = e (((rngI 0 (l.length : Int)).filter (keepT l w v)).map fun i => [V.int .i64 i]) := by
  refine (loop_foldB (b := (l.length : Int)) (L := fun n i s => loop_E9_0 w l (l.length : Int) v n i s (fun _ z => e z)) (g := fun s i => bif keepT l w v i then s ++ [[V.int .i64 i]] else s) (e := e) (fun i t => 0 <= i /\ t.length <= i.toNat) ?_ ?_ m 0 [] ⟨Int.le_refl 0, Nat.zero_le _⟩ hm).trans ?_
  · intro n i t ⟨h0, hb⟩
    show step_E9_0 w l (l.length : Int) v i t _ _ = _
    unfold step_E9_0 keepT
    by_cases hi : i < (l.length : Int)
    · have hroom : roomOK (t.length + 1) 8 = true := room_of (by omega)
      simp only [decide_eq_true hi, cond_true, inR_of h0 hi, hroom]
      rw [w64 (n := i + 1) (by omega) (by omega)]
      cases w with
      | true => rfl
      | false =>
        cases m_H2 (m_C6 (SRect.of (List.getD l i.toNat [])) v.Window) <;> rfl
    · simp only [decide_eq_false hi, cond_false]
  · intro i t ⟨h0, hb⟩ hi
    refine ⟨by omega, ?_⟩
    show (bif keepT l w v i then t ++ [[V.int .i64 i]] else t).length <= _
    cases keepT l w v i with
    | true =>
      rw [cond_true, List.length_append]
      show t.length + 1 <= _
      omega
    | false => rw [cond_false]; omega
  · rw [foldl_filter (keepT l w v) (fun i => [V.int .i64 i]), List.nil_append]
theorem Tiles_spec (h : SHeader) (v : SView) : spec_E9 h v some = some (V.data [.int .i64] (m_E9 h v)) := by
  unfold spec_E9 m_E9
  by_cases hh : m_C9 h = 0
  · have hb : (m_C9 h != 0) = false := by rw [hh]; rfl
    have hb' : (m_C9 h == 0) = true := by rw [hh]; rfl
    have key := fun w => Tiles_0 (R := V) w (m_E7 h) v (tiles_length h) (fun z => some (V.data [.int .i64] z)) _ (Nat.le_refl _)
    simp only [hb, hb', Bool.true_and]
    show (bif ((!isWhole v.Window) == true) then _ else _) = _
    cases hw : isWhole v.Window with
    | true =>
      simp only [Bool.true_or, cond_true]
      exact key (isWhole v.Window) |>.trans (by rw [hw]; rfl)
    | false =>
      cases hv : m_H1 v.Window with
      | false => rfl
      | true =>
        simp only [Bool.or_true, cond_true]
        exact key (isWhole v.Window) |>.trans (by rw [hw]; rfl)
  · have hb := bne_iff_ne.2 hh
    have hb' := beq_eq_false_iff_ne.2 hh
    simp only [hb, hb', Bool.false_and]
    rfl
theorem good_E9_of (h1 : G_E7) (h2 : G_C9) (h3 : G_H1) (h4 : G_H2) (h5 : G_C6) : G_E9 := by
  refine mk_E9 ?_ ?_ ?_ ?_ ?_ (fun h v _ => Tiles_spec h v) <;> assumption
theorem foldl_count {α : Type} (p : α -> Bool) : ∀ (l : List α) (s : Int), l.foldl (fun s x => bif p x then s + 1 else s) s = s + ((l.filter p).length : Int)
  | [], s => by simp
  | x :: l, s => by
    rw [List.foldl_cons, foldl_count p l]
    cases h : p x with
    | true => rw [List.filter_cons_of_pos h, List.length_cons, cond_true]; omega
    | false => rw [List.filter_cons_of_neg (by simp [h]), cond_false]
theorem count_spec (l : Rows) (hp : pre_I7 l = true) : spec_I7 l some = some (V.int .i64 (m_I7 l)) := by
  have hl : l.length <= 1099511627776 := Nat.le_of_ble_eq_true hp
  unfold spec_I7 m_I7
  refine (loop_foldB (b := (l.length : Int)) (L := fun n i s => loop_I7_0 l (l.length : Int) n s i (fun z _ => some (V.int .i64 z))) (g := fun s i => (fun s w => bif V.toBool (List.getD w 0 V.undef) then s + 1 else s) s (l.getD i.toNat [])) (e := fun z => some (V.int .i64 z)) (fun i t => 0 <= i /\ 0 <= t /\ t <= i) ?_ ?_ _ 0 0 ⟨Int.le_refl 0, Int.le_refl 0, Int.le_refl 0⟩ (Nat.le_refl _)).trans ?_
  · intro n i t ⟨h0, hb0, hb1⟩
    show step_I7_0 l (l.length : Int) t i _ _ = _
    unfold step_I7_0
    by_cases hi : i < (l.length : Int)
    · simp only [decide_eq_true hi, cond_true, inR_of h0 hi]
      rw [w64 (n := i + 1) (by omega) (by omega), w64 (n := t + 1) (by omega) (by omega)]
      cases V.toBool (List.getD (List.getD l i.toNat []) 0 V.undef) <;> rfl
    · simp only [decide_eq_false hi, cond_false]
  · intro i t ⟨h0, hb0, hb1⟩ hi
    refine ⟨by omega, ?_⟩
    simp only []
    cases V.toBool (List.getD (List.getD l i.toNat []) 0 V.undef) with
    | true => rw [cond_true]; omega
    | false => rw [cond_false]; omega
  · rw [rng_foldl (fun s w => bif V.toBool (List.getD w 0 V.undef) then s + 1 else s) l 0, foldl_count, Int.zero_add]
theorem good_I7_of : G_I7 := mk_I7 fun l hp _ => count_spec l hp
theorem Few_loop (n : Int) (h : SHeader) (p : SParams) (hn : n <= 16) (e : Option R) (kr : V -> Option R) (m : Nat) (hm : (n - 0).toNat + 1 <= m) :
    loop_J9_0 n h p m 0 (fun _ => e) kr = bif (rngI 0 n).all (fun t => !decide (m_F5 h p t > 400)) then e else kr (V.bool false) := by
  refine loop_allB (a := 0) (b := n) (L := fun m i => loop_J9_0 n h p m i (fun _ => e) kr) (ok := fun t => !decide (m_F5 h p t > 400)) (e := e) (x := kr (V.bool false)) (fun m i h0 => ?_) m hm
  show step_J9_0 n h p i _ _ kr = _
  unfold step_J9_0
  by_cases hi : i < n
  · simp only [decide_eq_true hi, cond_true, R24_Packets_pre]
    rw [w64 (n := i + 1) (by omega) (by omega)]
    cases decide (m_F5 h p i > 400) <;> rfl
  · simp only [decide_eq_false hi, cond_false]
theorem Few_spec (h : SHeader) (p : SParams) : spec_J9 h p some = some (V.bool (m_J9 h p)) := by
  unfold spec_J9 m_J9 m_H4 m_I6
  rw [R24_Tiles_eq]
  simp only []
  cases h1 : decide ((h.Components.length : Int) > 10) with
  | true => rfl
  | false =>
    cases h2 : decide ((p.Precincts.length : Int) > 10) with
    | true => rfl
    | false =>
      cases h3 : decide ((p.Steps.length : Int) > 40) with
      | true => rfl
      | false =>
        cases h4 : (m_C9 h != 0) with
        | true => rfl
        | false =>
          cases h5 : decide (IntKind.wrap .i64 (h.Area.X1 - h.Area.X0) > 40) with
          | true => rfl
          | false =>
            cases h6 : decide (IntKind.wrap .i64 (h.Area.Y1 - h.Area.Y0) > 40) with
            | true => rfl
            | false =>
              cases h7 : decide (((m_E7 h).length : Int) > 16) with
              | true => rfl
              | false =>
                cases h8 : (m_E2 h p != 0) with
                | true => rfl
                | false =>
                  have hn : ((m_E7 h).length : Int) <= 16 := by
                    have := of_decide_eq_false h7
                    omega
                  refine (Few_loop ((m_E7 h).length : Int) h p hn (some (V.bool true)) some _ (Nat.le_refl _)).trans ?_
                  show _ = some (V.bool ((rngI 0 ((m_E7 h).length : Int)).all fun t => !decide (m_F5 h p t > 400)))
                  cases (rngI 0 ((m_E7 h).length : Int)).all (fun t => !decide (m_F5 h p t > 400)) <;> rfl
theorem good_J9_of (h1 : G_H4) (h2 : G_I3) (h3 : G_I6) (h4 : G_F5) : G_J9 := by
  refine mk_J9 ?_ ?_ ?_ ?_ (fun h p _ => Few_spec h p) <;> assumption
theorem awake_spec : spec_J0 some = some (V.bool m_J0) := by kernel_rfl
theorem good_J0_of (h1 : G_D2) (h2 : G_E9) (h3 : G_I7) : G_J0 := mk_J0 h1 h2 h3 fun _ => awake_spec
theorem all_true {l : List Int} : l.all (fun _ => true) = true := by
  rw [List.all_eq_true]; intro _ _; rfl
theorem mTiles_length (h : SHeader) (v : SView) : (m_E9 h v).length <= 16777216 := by
  have ht := tiles_length h
  unfold m_E9
  cases ((m_C9 h == 0) && (isWhole v.Window || m_H1 v.Window)) with
  | false => exact Nat.zero_le _
  | true =>
    rw [cond_true, List.length_map]
    refine Nat.le_trans (List.length_filter_le _ _) ?_
    rw [length_rngI]
    omega
def Inside (a b : SRect) : Prop := (b.X0 <= a.X0 /\ a.X0 < a.X1 /\ a.X1 <= b.X1) /\ b.Y0 <= a.Y0 /\ a.Y0 < a.Y1 /\ a.Y1 <= b.Y1
theorem Inside.trans {a b c : SRect} (h1 : Inside a b) (h2 : Inside b c) : Inside a c := by
  unfold Inside at *; omega
theorem inter_inside {a b : SRect} (h : m_H2 (m_C6 a b) = false) : Inside (m_C6 a b) a /\ Inside (m_C6 a b) b := by
  rw [Intersect_eq] at h ⊢
  split at h
  · rename_i hh
    rw [if_pos hh]
    unfold Inside
    simp only []
    omega
  · cases h
theorem Inside.ne' {a b : SRect} (h : Inside a b) : m_H2 b = false := Empty_f.2 (by unfold Inside at h; omega)
theorem cell_meets {x y a c : Int} (hx : 0 <= x) (hxy : x < y) (ha : 0 <= a) (ha2 : a <= 12) (h0 : 0 <= c) (h1 : c < nCells x y a) :
    max x ((x / 2 ^ a.toNat + c) * 2 ^ a.toNat) < min y ((x / 2 ^ a.toNat + c + 1) * 2 ^ a.toNat) := by
  have hp := pow_small (n := a.toNat) (by omega)
  unfold nCells at h1
  generalize (2 : Int) ^ a.toNat = p at hp h1 ⊢
  have q1 : (x / p + c) * p <= ((y - 1) / p) * p := Int.mul_le_mul_of_nonneg_right (by omega) (by omega)
  have q2 : ((y - 1) / p) * p <= y - 1 := Int.ediv_mul_le _ (by omega)
  have q3 : (x / p + 1) * p <= (x / p + c + 1) * p := Int.mul_le_mul_of_nonneg_right (by omega) (by omega)
  have q4 : x < (x / p + 1) * p := Int.lt_ediv_add_one_mul_self _ (by omega)
  have q5 : (x / p + c) * p + p = (x / p + c + 1) * p := by rw [Int.add_mul (x / p + c) 1 p, Int.one_mul]
  omega
theorem cell_bd {x y a c : Int} (hx : 0 <= x) (hxy : x < y) (hy : y <= 4096) (ha : 0 <= a) (ha2 : a <= 12) (h0 : 0 <= c) (h1 : c < nCells x y a) :
    (0 <= x / 2 ^ a.toNat + c /\ x / 2 ^ a.toNat + c <= 8192) /\ (0 <= (x / 2 ^ a.toNat + c) * 2 ^ a.toNat /\ (x / 2 ^ a.toNat + c) * 2 ^ a.toNat <= 4096) /\ 0 <= (x / 2 ^ a.toNat + c + 1) * 2 ^ a.toNat /\ (x / 2 ^ a.toNat + c + 1) * 2 ^ a.toNat <= 8192 := by
  have hm := cell_meets hx hxy ha ha2 h0 h1
  have hp := pow_small (n := a.toNat) (by omega)
  have b := nCells_bd hx hxy hy ha ha2
  have q5 : (x / 2 ^ a.toNat + c) * 2 ^ a.toNat + 2 ^ a.toNat = (x / 2 ^ a.toNat + c + 1) * 2 ^ a.toNat := by rw [Int.add_mul (x / 2 ^ a.toNat + c) 1, Int.one_mul]
  have q6 : 0 <= (x / 2 ^ a.toNat + c) * 2 ^ a.toNat := Int.mul_nonneg (by omega) (by omega)
  generalize (2 : Int) ^ a.toNat = p at *
  omega
theorem blocks_inside {a : SRect} {bx bY : Int} {w : List V} (hw : w ∈ (m_A9 a bx bY).2.2) : Inside (SRect.of w) a := by
  unfold m_A9 at hw
  simp only [] at hw
  obtain ⟨r, hr, hw⟩ := List.mem_flatMap.1 hw
  obtain ⟨c, hc, rfl⟩ := List.mem_map.1 hw
  have hr := rngI_lt hr
  have hc := rngI_lt hc
  by_cases hg : (m_H1 a = true /\ m_H2 a = false) /\ ((0 <= bx /\ bx <= 6) /\ 0 <= bY /\ bY <= 6) /\ nCells a.X0 a.X1 bx * nCells a.Y0 a.Y1 bY <= 65536
  · rw [grid_eq a bx bY 6 (by omega), if_pos hg] at hr hc ⊢
    obtain ⟨⟨hv, he⟩, hab, _⟩ := hg
    obtain ⟨⟨h1, h2, h3⟩, h4, h5, h6⟩ := Valid_iff.1 hv
    obtain ⟨g1, g2⟩ := Empty_f.1 he
    simp only [] at hr hc ⊢
    have m1 := cell_meets h1 g1 hab.1.1 (by omega) hc.1 hc.2
    have m2 := cell_meets h4 g2 hab.2.1 (by omega) hr.1 hr.2
    have c1 := cell_bd h1 g1 h3 hab.1.1 (by omega) hc.1 hc.2
    have c2 := cell_bd h4 g2 h6 hab.2.1 (by omega) hr.1 hr.2
    rw [w64 (n := a.X0 / 2 ^ bx.toNat + c) (by omega) (by omega), w64 (n := a.Y0 / 2 ^ bY.toNat + r) (by omega) (by omega), cell_eq _ _ ⟨hab.1.1, by omega⟩ ⟨hab.2.1, by omega⟩,
      w64 (n := a.X0 / 2 ^ bx.toNat + c + 1) (by omega) (by omega), w64 (n := a.Y0 / 2 ^ bY.toNat + r + 1) (by omega) (by omega),
      w64 (n := (a.X0 / 2 ^ bx.toNat + c) * 2 ^ bx.toNat) (by omega) (by omega), w64 (n := (a.Y0 / 2 ^ bY.toNat + r) * 2 ^ bY.toNat) (by omega) (by omega),
      w64 (n := (a.X0 / 2 ^ bx.toNat + c + 1) * 2 ^ bx.toNat) (by omega) (by omega), w64 (n := (a.Y0 / 2 ^ bY.toNat + r + 1) * 2 ^ bY.toNat) (by omega) (by omega)]
    refine (inter_inside (b := ⟨(a.X0 / 2 ^ bx.toNat + c) * 2 ^ bx.toNat, (a.Y0 / 2 ^ bY.toNat + r) * 2 ^ bY.toNat, (a.X0 / 2 ^ bx.toNat + c + 1) * 2 ^ bx.toNat, (a.Y0 / 2 ^ bY.toNat + r + 1) * 2 ^ bY.toNat⟩) ?_).1
    rw [Intersect_eq, if_pos ⟨m1, m2⟩]
    exact Empty_f.2 ⟨m1, m2⟩
  · rw [grid_eq a bx bY 6 (by omega), if_neg hg] at hr
    simp only [] at hr
    omega
theorem inBand_inside {r s : SRect} {o a b i : Int} {w : SRect} (hw : Inside w (m_B1 r s o a b i).1) : Inside w s := by
  have hz : ∀ {w : SRect}, ¬ Inside w ⟨0, 0, 0, 0⟩ := by
    intro w h
    unfold Inside at h
    simp only [] at h
    omega
  rw [InBand_eq] at hw
  split at hw
  · split at hw
    · exact hw.trans (inter_inside hw.ne').1
    · split at hw
      · exact absurd hw hz
      · exact hw.trans (inter_inside hw.ne').1
  · exact absurd hw hz
theorem find_inside (h : SHeader) (p : SParams) (tile comp band k : Int) : ∀ w ∈ (m_F3 h p tile comp band k).blocks, Inside (SRect.of w) (m_F1 (m_B0 h tile comp) p.Levels band) := by
  have hc : ∀ (B : SRect) (b : Bool) (x y : Slayout_part), (∀ w ∈ x.blocks, Inside (SRect.of w) B) -> (∀ w ∈ y.blocks, Inside (SRect.of w) B) -> ∀ w ∈ (bif b then x else y).blocks, Inside (SRect.of w) B := by
    intro B b x y hx hy
    cases b
    · exact hy
    · exact hx
  have hz : ∀ (B : SRect), ∀ w ∈ (Slayout_part.mk 0 0 []).blocks, Inside (SRect.of w) B := by
    intro B w hw
    exact absurd hw List.not_mem_nil
  have hb : ∀ (r s : SRect) (o a b i x y n m : Int), ∀ w ∈ (Slayout_part.mk n m (m_A9 (m_B1 r s o a b i).1 x y).2.2).blocks, Inside (SRect.of w) s := by
    intro r s o a b i x y n m w hw
    exact inBand_inside (blocks_inside hw)
  unfold m_F3
  simp only []
  repeat' (first | with_reducible exact hz _ | with_reducible exact hb _ _ _ _ _ _ _ _ _ _ | with_reducible refine hc _ _ _ _ ?_ ?_)
theorem All_inside {h : SHeader} {p : SParams} {tile : Int} {w : List V} (hw : w ∈ m_G6 h p tile) : Inside (SBlockID.of w).Rect (m_F1 (m_B0 h tile (SBlockID.of w).Comp) p.Levels (SBlockID.of w).Band) := by
  unfold m_G6 at hw
  cases he : m_D7 h p tile 0 with
  | false => rw [he] at hw; exact absurd hw List.not_mem_nil
  | true =>
    rw [he, cond_true] at hw
    obtain ⟨comp, hcomp, hw⟩ := List.mem_flatMap.1 hw
    obtain ⟨res, hres, hw⟩ := List.mem_flatMap.1 hw
    obtain ⟨k, _, hw⟩ := List.mem_flatMap.1 hw
    unfold m_B8 m_A7 at hw
    obtain ⟨b, hb, hw⟩ := List.mem_flatMap.1 hw
    unfold idRows at hw
    obtain ⟨i, hi, rfl⟩ := List.mem_map.1 hw
    have hi : 0 <= i /\ i < ((m_F3 h p tile comp (V.toInt (List.getD b 0 V.undef)) k).blocks.length : Int) := rngI_lt hi
    have hl : i.toNat < (m_F3 h p tile comp (V.toInt (List.getD b 0 V.undef)) k).blocks.length := by omega
    have := find_inside h p tile comp (V.toInt (List.getD b 0 V.undef)) k _ (List.getElem_mem hl)
    show Inside (SRect.of (List.getD (m_F3 h p tile comp (V.toInt (List.getD b 0 V.undef)) k).blocks i.toNat [])) (m_F1 (m_B0 h tile comp) p.Levels (V.toInt (List.getD b 0 V.undef)))
    rw [List.getD_eq_getElem?_getD, List.getElem?_eq_getElem hl]
    exact this
theorem CeilDiv_alt {x w : Int} (hx : 0 <= x) (hx2 : x <= 4096) (hw : 1 <= w) : m_E3 x w = (x + w - 1) / w := by
  rw [CeilDiv_eq hx (by omega) hw]
  have h1 := Int.emod_nonneg x (show w ≠ 0 by omega)
  have h2 := Int.emod_lt_of_pos x (show 0 < w by omega)
  have e : x + w - 1 = (x % w + w - 1) + w * (x / w) := by
    have := Int.mul_ediv_add_emod x w
    omega
  rw [e, Int.add_mul_ediv_left _ _ (by omega)]
  by_cases h : x % w > 0
  · rw [decide_eq_true h, cond_true]
    have e2 : x % w + w - 1 = (x % w - 1) + w * 1 := by omega
    rw [e2, Int.add_mul_ediv_left _ _ (by omega), Int.ediv_eq_zero_of_lt (a := x % w - 1) (b := w) (by omega) (by omega)]
    omega
  · rw [decide_eq_false h, cond_false, Int.ediv_eq_zero_of_lt (a := x % w + w - 1) (by omega) (by omega)]
    omega
theorem ceil_half {x w : Int} (hx : 0 <= x) (hx2 : x <= 4096) (hw : 1 <= w) : (m_E3 x w + 1) / 2 = m_E3 x (w * 2) := by
  rw [CeilDiv_alt hx hx2 hw, CeilDiv_alt hx hx2 (by omega)]
  have e : (x + w - 1) / w + 1 = (x + w * 2 - 1) / w := by
    have e2 : x + w * 2 - 1 = (x + w - 1) + w * 1 := by omega
    rw [e2, Int.add_mul_ediv_left _ _ (by omega)]
  rw [e, Int.ediv_ediv_of_nonneg (by omega)]
theorem res_half (r : SRect) {l n : Int} (hl : 0 <= l /\ l <= 5) (h0 : 0 <= n) (h1 : n + 1 <= l) : m_A6 r l n = (bandsOf (m_A6 r l (n + 1))).e0 := by
  rw [Resolution_eq, Resolution_eq, if_pos ⟨hl, by omega, by omega⟩, if_pos ⟨hl, by omega, by omega⟩]
  have ek : (l - n).toNat = (l - (n + 1)).toNat + 1 := by omega
  have hp := pow_small (n := (l - (n + 1)).toNat) (by omega)
  have hp2 := pow_small (n := (l - n).toNat) (by omega)
  have e2 : (2 : Int) ^ (l - n).toNat = 2 ^ (l - (n + 1)).toNat * 2 := by rw [ek, Int.pow_succ]
  rw [e2] at hp2 ⊢
  generalize (2 : Int) ^ (l - (n + 1)).toNat = w at hp hp2 ⊢
  rw [Reduce_eq, Reduce_eq]
  by_cases hv : m_H1 r = true
  · obtain ⟨⟨v1, v2, v3⟩, v4, v5, v6⟩ := Valid_iff.1 hv
    rw [if_pos ⟨hv, hp2, hp2⟩, if_pos ⟨hv, hp, hp⟩]
    unfold bandsOf
    simp only []
    rw [ceil_half v1 (by omega) hp.1, ceil_half v4 (by omega) hp.1, ceil_half (x := r.X1) (by omega) v3 hp.1, ceil_half (x := r.Y1) (by omega) v6 hp.1]
  · rw [if_neg (fun h => hv h.1), if_neg (fun h => hv h.1)]
    rfl
theorem parts_empty {r : SRect} (hv : m_H1 r = true) (he : m_H2 r = true) : m_H2 (bandsOf r).e0 = true /\ m_H2 (bandsOf r).e1 = true /\ m_H2 (bandsOf r).e2 = true /\ m_H2 (bandsOf r).e3 = true := by
  obtain ⟨⟨h1, h2, h3⟩, h4, h5, h6⟩ := Valid_iff.1 hv
  have he := Empty_iff.1 he
  unfold bandsOf
  refine ⟨Empty_iff.2 ?_, Empty_iff.2 ?_, Empty_iff.2 ?_, Empty_iff.2 ?_⟩
  · show (r.X1 + 1) / 2 <= (r.X0 + 1) / 2 \/ (r.Y1 + 1) / 2 <= (r.Y0 + 1) / 2
    omega
  · show r.X1 / 2 <= r.X0 / 2 \/ (r.Y1 + 1) / 2 <= (r.Y0 + 1) / 2
    omega
  · show (r.X1 + 1) / 2 <= (r.X0 + 1) / 2 \/ r.Y1 / 2 <= r.Y0 / 2
    omega
  · show r.X1 / 2 <= r.X0 / 2 \/ r.Y1 / 2 <= r.Y0 / 2
    omega
theorem res_empty (r : SRect) {l n : Int} (hl : 0 <= l /\ l <= 5) (h0 : 0 <= n) (h1 : n + 1 <= l) (h : m_H2 (m_A6 r l n) = false) : m_H2 (m_A6 r l (n + 1)) = false := by
  rw [<- Bool.not_eq_true]
  intro he
  rw [res_half r hl h0 h1, (parts_empty (Resolution_valid _ _ _) he).1] at h
  cases h
theorem getD_set (o : Rows) (i k : Nat) (x : List V) : List.getD (o.set i x) k [] = if i = k /\ k < o.length then x else List.getD o k [] := by
  rw [List.getD_eq_getElem?_getD, List.getElem?_set]
  by_cases h : i = k
  · subst h
    by_cases h2 : i < o.length
    · rw [if_pos rfl, if_pos h2, if_pos ⟨rfl, h2⟩]; rfl
    · rw [if_pos rfl, if_neg h2, if_neg (fun h => h2 h.2), List.getD_eq_getElem?_getD, List.getElem?_eq_none (by omega)]
  · rw [if_neg h, if_neg (fun hh => h hh.1), List.getD_eq_getElem?_getD]
def nextB (a : SRect) (l m : Int) (n : Nat) (w : SRect) : SA4_Rect := m_J1 (m_C6 ⟨w.X0 - m, w.Y0 - m, w.X1 + m, w.Y1 + m⟩ (m_A6 a l ((n : Int) + 1)))
theorem needN_succ (a : SRect) (l m : Int) (n : Nat) (o : Rows) {w : SRect} (hm : 0 <= m /\ m <= 4) (hw : m_H1 w = true) :
    needN a l m (n + 1) o w = needN a l m n (((o.set (3 * n + 1) (SRect.row (nextB a l m n w).e1)).set (3 * n + 2) (SRect.row (nextB a l m n w).e2)).set (3 * n + 3) (SRect.row (nextB a l m n w).e3)) (nextB a l m n w).e0 := by
  obtain ⟨⟨h1, h2, h3⟩, h4, h5, h6⟩ := Valid_iff.1 hw
  have e1 := show needN a l m (n + 1) o w = (fun (b : SA4_Rect) => needN a l m n (((o.set (3 * n + 1) (SRect.row b.e1)).set (3 * n + 2) (SRect.row b.e2)).set (3 * n + 3) (SRect.row b.e3)) b.e0) (m_J1 (m_C6 ⟨IntKind.wrap .i64 (w.X0 - m), IntKind.wrap .i64 (w.Y0 - m), IntKind.wrap .i64 (w.X1 + m), IntKind.wrap .i64 (w.Y1 + m)⟩ (m_A6 a l ((n : Int) + 1)))) from rfl
  rw [w64 (n := w.X0 - m) (by omega) (by omega), w64 (n := w.Y0 - m) (by omega) (by omega), w64 (n := w.X1 + m) (by omega) (by omega), w64 (n := w.Y1 + m) (by omega) (by omega)] at e1
  exact e1
theorem nextB_valid (a : SRect) (l m : Int) (n : Nat) (w : SRect) : m_H1 (nextB a l m n w).e0 = true := by
  unfold nextB
  rw [dwt_Bands_eq (with_res _ _ _ _)]
  exact bandsOf_valid (with_res _ _ _ _)
theorem needN_keep (a : SRect) (l m : Int) (hm : 0 <= m /\ m <= 4) : ∀ (n : Nat) (o : Rows) (w : SRect) (k : Nat), m_H1 w = true -> 3 * n < k -> List.getD (needN a l m n o w).1 k [] = List.getD o k []
  | 0, o, w, k, _, _ => rfl
  | n + 1, o, w, k, hw, hk => by
    rw [needN_succ a l m n o hm hw, needN_keep a l m hm n _ _ k (nextB_valid _ _ _ _ _) (by omega), getD_set, if_neg (by omega), getD_set, if_neg (by omega), getD_set, if_neg (by omega)]
theorem band_at {r : SRect} {l : Int} (hl : 0 <= l /\ l <= 5) (hv : m_H1 r = true) {n : Nat} (hn : (n : Int) + 1 <= l) :
    m_F1 r l (3 * (n : Int) + 1) = (bandsOf (m_A6 r l ((n : Int) + 1))).e1 /\ m_F1 r l (3 * (n : Int) + 2) = (bandsOf (m_A6 r l ((n : Int) + 1))).e2 /\ m_F1 r l (3 * (n : Int) + 3) = (bandsOf (m_A6 r l ((n : Int) + 1))).e3 := by
  have key : ∀ (o : Int), 1 <= o -> o <= 3 -> m_F1 r l (3 * (n : Int) + o) = oRect (bandsOf (m_A6 r l ((n : Int) + 1))) o := by
    intro o h1 h3
    have hp : m_D6 (3 * (n : Int) + o) l = (l - (n : Int), o, true) := by
      rw [pyramid_Place_eq, pyramid_Count_eq, if_pos hl, if_pos (by omega), if_neg (by omega)]
      have : (3 * (n : Int) + o + 2) / 3 = (n : Int) + 1 := by omega
      rw [this]
      congr 1
      · omega
      · congr 1
        omega
    rw [Band_eq, hp, if_pos ⟨rfl, hv⟩, if_neg (by omega)]
    simp only []
    rw [w64 (n := l - (l - (n : Int))) (by omega) (by omega), show l - (l - (n : Int)) = (n : Int) by omega, w64 (n := (n : Int) + 1) (by omega) (by omega), dwt_Bands_eq (Resolution_valid _ _ _)]
  exact ⟨key 1 (by omega) (by omega), key 2 (by omega) (by omega), key 3 (by omega) (by omega)⟩
theorem nextB_full {a : SRect} {l m : Int} (hm : 0 <= m) {n : Nat} {w : SRect} (hne : m_H2 (m_A6 a l ((n : Int) + 1)) = false) (hw : w = m_A6 a l ((n : Int) + 1)) : nextB a l m n w = bandsOf (m_A6 a l ((n : Int) + 1)) := by
  subst hw
  obtain ⟨g1, g2⟩ := Empty_f.1 hne
  unfold nextB
  rw [dwt_Bands_eq (with_res _ _ _ _)]
  congr 1
  rw [Intersect_eq]
  simp only []
  rw [if_pos ⟨by omega, by omega⟩]
  generalize m_A6 a l ((n : Int) + 1) = q at *
  obtain ⟨x0, y0, x1, y1⟩ := q
  simp only [SRect.mk.injEq]
  omega
theorem need_full (a : SRect) (l m : Int) (hl : 0 <= l /\ l <= 5) (hm : 0 <= m /\ m <= 4) (hv : m_H1 a = true) : ∀ (n : Nat) (o : Rows) (w : SRect), (n : Int) <= l -> o.length = (3 * l + 1).toNat -> m_H1 w = true ->
    (m_H2 (m_A6 a l (n : Int)) = false -> w = m_A6 a l (n : Int)) ->
    (∀ b : Nat, 1 <= b -> b <= 3 * n -> m_H2 (m_F1 a l (b : Int)) = false -> SRect.of (List.getD (needN a l m n o w).1 b []) = m_F1 a l (b : Int)) /\
    (m_H2 (m_A6 a l 0) = false -> (needN a l m n o w).2 = m_A6 a l 0)
  | 0, o, w, hn, ho, hw, hf => ⟨fun b h1 h2 => by omega, hf⟩
  | n + 1, o, w, hn, ho, hw, hf => by
    have hn1 : (n : Int) + 1 <= l := by omega
    have ec : ((n + 1 : Nat) : Int) = (n : Int) + 1 := by omega
    rw [ec] at hf
    rw [needN_succ a l m n o hm hw]
    have ih := need_full a l m hl hm hv n (((o.set (3 * n + 1) (SRect.row (nextB a l m n w).e1)).set (3 * n + 2) (SRect.row (nextB a l m n w).e2)).set (3 * n + 3) (SRect.row (nextB a l m n w).e3)) (nextB a l m n w).e0 (by omega) (by simp only [List.length_set]; exact ho) (nextB_valid _ _ _ _ _) (fun hne => by
      have hne1 := res_empty a hl (by omega) hn1 hne
      rw [nextB_full hm.1 hne1 (hf hne1), <- res_half a hl (by omega) hn1])
    refine ⟨fun b h1 h2 hb => ?_, ih.2⟩
    by_cases hb3 : b <= 3 * n
    · exact ih.1 b h1 hb3 hb
    · obtain ⟨e1, e2, e3⟩ := band_at (r := a) hl hv hn1
      have hne1 : m_H2 (m_A6 a l ((n : Int) + 1)) = false := by
        rw [<- Bool.not_eq_true]
        intro he
        obtain ⟨_, p1, p2, p3⟩ := parts_empty (Resolution_valid a l ((n : Int) + 1)) he
        have : b = 3 * n + 1 \/ b = 3 * n + 2 \/ b = 3 * n + 3 := by omega
        rcases this with rfl | rfl | rfl
        · rw [show ((3 * n + 1 : Nat) : Int) = 3 * (n : Int) + 1 by omega, e1, p1] at hb; cases hb
        · rw [show ((3 * n + 2 : Nat) : Int) = 3 * (n : Int) + 2 by omega, e2, p2] at hb; cases hb
        · rw [show ((3 * n + 3 : Nat) : Int) = 3 * (n : Int) + 3 by omega, e3, p3] at hb; cases hb
      rw [needN_keep a l m hm n _ _ b (nextB_valid _ _ _ _ _) (by omega), nextB_full hm.1 hne1 (hf hne1)]
      have : b = 3 * n + 1 \/ b = 3 * n + 2 \/ b = 3 * n + 3 := by omega
      rcases this with rfl | rfl | rfl
      · rw [getD_set, if_neg (by omega), getD_set, if_neg (by omega), getD_set, if_pos ⟨rfl, by omega⟩, show ((3 * n + 1 : Nat) : Int) = 3 * (n : Int) + 1 by omega, e1]; rfl
      · rw [getD_set, if_neg (by omega), getD_set, if_pos ⟨rfl, by rw [List.length_set]; omega⟩, show ((3 * n + 2 : Nat) : Int) = 3 * (n : Int) + 2 by omega, e2]; rfl
      · rw [getD_set, if_pos ⟨rfl, by simp only [List.length_set]; omega⟩, show ((3 * n + 3 : Nat) : Int) = 3 * (n : Int) + 3 by omega, e3]; rfl
def Sub (a b : SRect) : Prop := (b.X0 <= a.X0 /\ a.X0 <= a.X1 /\ a.X1 <= b.X1) /\ b.Y0 <= a.Y0 /\ a.Y0 <= a.Y1 /\ a.Y1 <= b.Y1
theorem Inside.sub {a b : SRect} (h : Inside a b) : Sub a b := by unfold Inside at h; unfold Sub; omega
theorem Sub.trans {a b c : SRect} (h1 : Sub a b) (h2 : Sub b c) : Sub a c := by unfold Sub at *; omega
theorem sub_self {a : SRect} (h : m_H1 a = true) : Sub a a := by
  have := Valid_iff.1 h
  unfold Sub; omega
def LeR (a b : SRect) : Prop := a = b \/ Sub a b
theorem parts_sub {a b : SRect} (h : Sub a b) : Sub (bandsOf a).e0 (bandsOf b).e0 /\ Sub (bandsOf a).e1 (bandsOf b).e1 /\ Sub (bandsOf a).e2 (bandsOf b).e2 /\ Sub (bandsOf a).e3 (bandsOf b).e3 := by
  unfold Sub at h
  unfold bandsOf Sub
  simp only []
  omega
theorem CeilDiv_le {x y w : Int} (hx : 0 <= x) (hxy : x <= y) (hy : y <= 4096) (hw : 1 <= w) : m_E3 x w <= m_E3 y w := by
  rw [CeilDiv_alt hx (by omega) hw, CeilDiv_alt (by omega) hy hw]
  exact Int.ediv_le_ediv (by omega) (by omega)
theorem Reduce_sub {a b : SRect} (ha : m_H1 a = true) (hb : m_H1 b = true) (h : Sub a b) (dx dy : Int) : Sub (m_F4 a dx dy) (m_F4 b dx dy) := by
  rw [Reduce_eq, Reduce_eq]
  obtain ⟨⟨a1, a2, a3⟩, a4, a5, a6⟩ := Valid_iff.1 ha
  obtain ⟨⟨b1, b2, b3⟩, b4, b5, b6⟩ := Valid_iff.1 hb
  unfold Sub at h
  by_cases hd : (1 <= dx /\ dx <= 4096) /\ 1 <= dy /\ dy <= 4096
  · rw [if_pos ⟨ha, hd⟩, if_pos ⟨hb, hd⟩]
    unfold Sub
    simp only []
    have c1 := CeilDiv_le (w := dx) b1 h.1.1 (by omega) hd.1.1
    have c2 := CeilDiv_le (w := dx) a1 a2 a3 hd.1.1
    have c3 := CeilDiv_le (w := dx) (x := a.X1) (by omega) h.1.2.2 b3 hd.1.1
    have c4 := CeilDiv_le (w := dy) b4 h.2.1 (by omega) hd.2.1
    have c5 := CeilDiv_le (w := dy) a4 a5 a6 hd.2.1
    have c6 := CeilDiv_le (w := dy) (x := a.Y1) (by omega) h.2.2.2 b6 hd.2.1
    omega
  · rw [if_neg (fun h => hd h.2), if_neg (fun h => hd h.2)]
    exact sub_self zero_valid
def InvW (a : SRect) (l : Int) (n : Int) (w w' : SRect) : Prop := w = w' \/ (Sub w w' /\ Sub w' (m_A6 a l n))
theorem next_mono {a : SRect} {l m : Int} (hl : 0 <= l /\ l <= 5) (hm : 1 <= m) {n : Nat} (hn : (n : Int) + 1 <= l) {w w' : SRect} (h : InvW a l ((n : Int) + 1) w w') :
    InvW a l (n : Int) (nextB a l m n w).e0 (nextB a l m n w').e0 /\ LeR (nextB a l m n w).e1 (nextB a l m n w').e1 /\ LeR (nextB a l m n w).e2 (nextB a l m n w').e2 /\ LeR (nextB a l m n w).e3 (nextB a l m n w').e3 := by
  rcases h with rfl | ⟨h1, h2⟩
  · exact ⟨.inl rfl, .inl rfl, .inl rfl, .inl rfl⟩
  · unfold InvW
    rw [res_half a hl (by omega) hn]
    unfold nextB
    rw [dwt_Bands_eq (with_res _ _ _ _), dwt_Bands_eq (with_res _ _ _ _)]
    have hv := Valid_iff.1 (Resolution_valid a l ((n : Int) + 1))
    generalize m_A6 a l ((n : Int) + 1) = R at *
    rw [Intersect_eq, Intersect_eq]
    simp only []
    unfold Sub at h1 h2
    by_cases hR : R.X0 < R.X1 /\ R.Y0 < R.Y1
    · rw [if_pos ⟨by omega, by omega⟩, if_pos ⟨by omega, by omega⟩]
      have s1 : Sub ⟨max (w.X0 - m) R.X0, max (w.Y0 - m) R.Y0, min (w.X1 + m) R.X1, min (w.Y1 + m) R.Y1⟩ ⟨max (w'.X0 - m) R.X0, max (w'.Y0 - m) R.Y0, min (w'.X1 + m) R.X1, min (w'.Y1 + m) R.Y1⟩ := by
        unfold Sub; simp only []; omega
      have s2 : Sub ⟨max (w'.X0 - m) R.X0, max (w'.Y0 - m) R.Y0, min (w'.X1 + m) R.X1, min (w'.Y1 + m) R.Y1⟩ R := by
        unfold Sub; simp only []; omega
      have p1 := parts_sub s1
      exact ⟨.inr ⟨p1.1, (parts_sub s2).1⟩, .inr p1.2.1, .inr p1.2.2.1, .inr p1.2.2.2⟩
    · rw [if_neg (by omega), if_neg (by omega)]
      exact ⟨.inl rfl, .inl rfl, .inl rfl, .inl rfl⟩
def LL (o o' : Rows) : Prop := o.length = o'.length /\ ∀ k : Nat, LeR (SRect.of (List.getD o k [])) (SRect.of (List.getD o' k []))
theorem LL.set {o o' : Rows} (h : LL o o') (i : Nat) {r r' : SRect} (hr : LeR r r') : LL (o.set i (SRect.row r)) (o'.set i (SRect.row r')) := by
  refine ⟨by rw [List.length_set, List.length_set]; exact h.1, fun k => ?_⟩
  rw [getD_set, getD_set, h.1]
  split
  · exact hr
  · exact h.2 k
theorem need_mono (a : SRect) (l m : Int) (hl : 0 <= l /\ l <= 5) (hm : 1 <= m /\ m <= 4) : ∀ (n : Nat) (o o' : Rows) (w w' : SRect), (n : Int) <= l -> LL o o' -> m_H1 w = true -> m_H1 w' = true -> InvW a l (n : Int) w w' ->
    LL (needN a l m n o w).1 (needN a l m n o' w').1 /\ LeR (needN a l m n o w).2 (needN a l m n o' w').2
  | 0, o, o', w, w', _, ho, _, _, hw => ⟨ho, hw.imp id fun h => h.1⟩
  | n + 1, o, o', w, w', hn, ho, v1, v2, hw => by
    rw [needN_succ a l m n o ⟨by omega, hm.2⟩ v1, needN_succ a l m n o' ⟨by omega, hm.2⟩ v2]
    have ec : ((n + 1 : Nat) : Int) = (n : Int) + 1 := by omega
    rw [ec] at hw
    obtain ⟨q0, q1, q2, q3⟩ := next_mono hl hm.1 (by omega) hw
    exact need_mono a l m hl hm n _ _ _ _ (by omega) (((ho.set _ q1).set _ q2).set _ q3) (nextB_valid _ _ _ _ _) (nextB_valid _ _ _ _ _) q0
theorem LL_self (o : Rows) : LL o o := ⟨rfl, fun k => .inl rfl⟩
theorem Need_at {a : SRect} {l res k : Int} {win : SRect} (h : needOK a l res k = true) (he : m_H2 (m_C6 win (m_A6 a l res)) = false) :
    m_F0 a l res win k = (needN a l (m_F2 k) res.toNat (List.replicate (3 * l + 1).toNat (SRect.row ⟨0, 0, 0, 0⟩)) (m_C6 win (m_A6 a l res))).1.set 0 (SRect.row (needN a l (m_F2 k) res.toNat (List.replicate (3 * l + 1).toNat (SRect.row ⟨0, 0, 0, 0⟩)) (m_C6 win (m_A6 a l res))).2) := by
  unfold m_F0
  rw [h, cond_true]
  simp only []
  rw [he, cond_false]
theorem Need_none {a : SRect} {l res k : Int} {win : SRect} (he : m_H2 (m_C6 win (m_A6 a l res)) = true) (i : Nat) : m_H2 (SRect.of (List.getD (m_F0 a l res win k) i [])) = true := by
  unfold m_F0
  cases needOK a l res k with
  | false => rfl
  | true =>
    simp only [cond_true, he]
    rw [List.getD_eq_getElem?_getD, List.getElem?_replicate]
    split
    · rfl
    · rfl
theorem Need_le {a : SRect} {l res k : Int} {win win' : SRect} (h : needOK a l res k = true) (he : m_H2 (m_C6 win (m_A6 a l res)) = false) (hs : Sub win win') (i : Nat) :
    LeR (SRect.of (List.getD (m_F0 a l res win k) i [])) (SRect.of (List.getD (m_F0 a l res win' k) i [])) := by
  obtain ⟨hv, hl, hr, hk⟩ := needOK_iff.1 h
  have hmb := Margin_bd k
  have hrv := Valid_iff.1 (Resolution_valid a l res)
  have e1 := he
  rw [Intersect_eq] at e1
  have hc : max win.X0 (m_A6 a l res).X0 < min win.X1 (m_A6 a l res).X1 /\ max win.Y0 (m_A6 a l res).Y0 < min win.Y1 (m_A6 a l res).Y1 := by
    apply Decidable.byContradiction
    intro hn
    rw [if_neg hn] at e1
    cases e1
  have hs' := hs
  unfold Sub at hs'
  have hc' : max win'.X0 (m_A6 a l res).X0 < min win'.X1 (m_A6 a l res).X1 /\ max win'.Y0 (m_A6 a l res).Y0 < min win'.Y1 (m_A6 a l res).Y1 := ⟨by omega, by omega⟩
  have w1 := Intersect_eq win (m_A6 a l res)
  have w2 := Intersect_eq win' (m_A6 a l res)
  rw [if_pos hc] at w1
  rw [if_pos hc'] at w2
  have he' : m_H2 (m_C6 win' (m_A6 a l res)) = false := by
    rw [w2]; exact Empty_f.2 hc'
  have hres : ((res.toNat : Nat) : Int) = res := by omega
  have hinv : InvW a l ((res.toNat : Nat) : Int) (m_C6 win (m_A6 a l res)) (m_C6 win' (m_A6 a l res)) := by
    rw [hres]
    refine .inr ⟨?_, (inter_inside he').2.sub⟩
    rw [w1, w2]
    unfold Sub
    simp only []
    omega
  have key := need_mono a l (m_F2 k) hl ⟨by omega, hmb.2⟩ res.toNat _ _ _ _ (by omega) (LL_self (List.replicate (3 * l + 1).toNat (SRect.row ⟨0, 0, 0, 0⟩))) (with_res _ _ _ _) (with_res _ _ _ _) hinv
  rw [Need_at h he, Need_at h he']
  exact (key.1.set 0 key.2).2 i
theorem Component_at {h : SHeader} {t c : Int} (ht : 0 <= t /\ t < ((m_E7 h).length : Int)) (hc : 0 <= c /\ c < (h.Components.length : Int)) :
    m_B0 h t c = compRect (SRect.of (List.getD (m_E7 h) t.toNat [])) (List.getD h.Components c.toNat []) := by
  unfold m_B0
  have d1 : ¬ t < 0 := by omega
  have d2 : ¬ t >= ((m_E7 h).length : Int) := by omega
  have d3 : ¬ c < 0 := by omega
  have d4 : ¬ c >= (h.Components.length : Int) := by omega
  simp only [decide_eq_false d1, decide_eq_false d2, decide_eq_false d3, decide_eq_false d4, inR_of ht.1 ht.2, inR_of hc.1 hc.2]
  rfl
def noWin (v : SView) : SView := ⟨0, v.Drop, ⟨0, 0, 0, 0⟩⟩
theorem partOf_noWin (h : SHeader) (t d l : Int) : partOf h t ⟨l, d, ⟨0, 0, 0, 0⟩⟩ = SRect.of (List.getD (m_E7 h) t.toNat []) := rfl
theorem partOf_whole {h : SHeader} {t : Int} {v : SView} (hw : isWhole v.Window = true) : partOf h t v = SRect.of (List.getD (m_E7 h) t.toNat []) := by
  unfold partOf; rw [hw]; rfl
theorem partOf_part {h : SHeader} {t : Int} {v : SView} (hw : isWhole v.Window = false) : partOf h t v = m_C6 (SRect.of (List.getD (m_E7 h) t.toNat [])) v.Window := by
  unfold partOf; rw [hw]; rfl
theorem cells_valid (r : SRect) (w h : Int) : ∀ x ∈ m_G5 r w h, m_H1 (SRect.of x) = true := by
  intro x hx
  unfold m_G5 cellsL at hx
  cases hc : cellsOK r w h with
  | false => rw [hc] at hx; exact absurd hx List.not_mem_nil
  | true =>
    rw [hc, cond_true] at hx
    unfold cellsOK at hc
    simp only [Bool.and_eq_true] at hc
    obtain ⟨y, hy, rfl⟩ := List.mem_map.1 hx
    obtain ⟨j, _, hy⟩ := List.mem_flatMap.1 hy
    obtain ⟨i, _, rfl⟩ := List.mem_map.1 hy
    have hv := hc.1.1.1.1
    obtain ⟨⟨h1, _⟩, h4, _⟩ := Valid_iff.1 hv
    exact Intersect_valid (Or.inl hv) (Or.inl h1) (Or.inl h4)
theorem tile_valid {h : SHeader} {t : Int} (ht : 0 <= t /\ t < ((m_E7 h).length : Int)) : m_H1 (SRect.of (List.getD (m_E7 h) t.toNat [])) = true := by
  have hi : t.toNat < (m_E7 h).length := by omega
  rw [List.getD_eq_getElem?_getD, List.getElem?_eq_getElem hi, Option.getD_some]
  have hm := List.getElem_mem hi
  have key : ∀ x ∈ m_E7 h, m_H1 (SRect.of x) = true := by
    intro x hx
    unfold m_E7 at hx
    simp only [] at hx
    cases hb : (m_C9 h != 0) with
    | true => rw [hb] at hx; exact absurd hx List.not_mem_nil
    | false => rw [hb] at hx; exact cells_valid _ _ _ x hx
  exact key _ hm
theorem Reduce_zero (dx dy : Int) : m_F4 ⟨0, 0, 0, 0⟩ dx dy = ⟨0, 0, 0, 0⟩ := by
  rw [Reduce_eq]
  split
  · rename_i h
    have e : ∀ {d : Int}, 1 <= d -> m_E3 0 d = 0 := by
      intro d hd
      rw [CeilDiv_alt (by omega) (by omega) hd, Int.ediv_eq_zero_of_lt (by omega) (by omega)]
    rw [e h.2.1.1, e h.2.2.1]
  · rfl
theorem inter_zero (r : SRect) (hv : m_H1 r = true) : m_H2 (m_C6 ⟨0, 0, 0, 0⟩ r) = true := by
  have := Valid_iff.1 hv
  rw [Intersect_eq, if_neg (by simp only []; omega)]
  rfl
theorem inter_empty_eq {a b : SRect} (h : m_H2 (m_C6 a b) = true) : m_C6 a b = ⟨0, 0, 0, 0⟩ := by
  rw [Intersect_eq] at h ⊢
  split at h
  · rename_i hh
    have := Empty_iff.1 h
    simp only [] at this
    omega
  · rename_i hh
    rw [if_neg hh]
theorem inter_of_empty {a b : SRect} (h : m_H2 b = true) : m_H2 (m_C6 a b) = true := by
  have := Empty_iff.1 h
  rw [Intersect_eq, if_neg (by omega)]
  rfl
theorem needed_none {h : SHeader} {p : SParams} {tile : Int} {v : SView} (hw : isWhole v.Window = false) (he : m_H2 (m_C6 (SRect.of (List.getD (m_E7 h) tile.toNat [])) v.Window) = true) (id : SBlockID) : blockNeeded h p tile v id = false := by
  unfold blockNeeded needOf
  rw [partOf_part hw, inter_empty_eq he]
  unfold compRect
  rw [Reduce_zero, Reduce_zero, inter_of_empty (Need_none (inter_zero _ (Resolution_valid _ _ _)) _)]
  rfl
theorem needed_mono {h : SHeader} {p : SParams} {tile : Int} {v : SView} (he : m_D7 h p tile 0 = true) (hd : 0 <= v.Drop /\ v.Drop <= p.Levels) {i : Int} (h0 : 0 <= i) (h1 : i < ((m_G6 h p tile).length : Int))
    (hn : blockNeeded h p tile v (idAt (m_G6 h p tile) i) = true) : blockNeeded h p tile (noWin v) (idAt (m_G6 h p tile) i) = true := by
  obtain ⟨hc, ht, _⟩ := exists_iff.1 he
  have hok := blocks_law (v := v) he hd h0 h1
  cases hw : isWhole v.Window with
  | true =>
    have : blockNeeded h p tile (noWin v) (idAt (m_G6 h p tile) i) = blockNeeded h p tile v (idAt (m_G6 h p tile) i) := by
      unfold blockNeeded needOf
      rw [partOf_whole hw]
      rfl
    rw [this]; exact hn
  | false =>
    have htv := tile_valid ht
    cases hp : m_H2 (m_C6 (SRect.of (List.getD (m_E7 h) tile.toNat [])) v.Window) with
    | true => rw [needed_none hw hp] at hn; cases hn
    | false =>
      have hsub := (inter_inside hp).1.sub
      have hpv : m_H1 (m_C6 (SRect.of (List.getD (m_E7 h) tile.toNat [])) v.Window) = true := by
        obtain ⟨⟨t1, _⟩, t4, _⟩ := Valid_iff.1 htv
        exact Intersect_valid (Or.inl htv) (Or.inl t1) (Or.inl t4)
      unfold blockNeeded needOf at hn ⊢
      rw [partOf_part hw] at hn
      have hs1 := Reduce_sub hpv htv hsub (SComponent.of (List.getD h.Components (idAt (m_G6 h p tile) i).Comp.toNat [])).DX (SComponent.of (List.getD h.Components (idAt (m_G6 h p tile) i).Comp.toNat [])).DY
      have hs2 := Reduce_sub (Reduce_valid _ _ _) (Reduce_valid _ _ _) hs1 (dropD v) (dropD v)
      generalize hid : idAt (m_G6 h p tile) i = id at *
      rw [Bool.not_eq_true'] at hn ⊢
      cases hE : m_H2 (m_C6 (m_F4 (compRect (m_C6 (SRect.of (List.getD (m_E7 h) tile.toNat [])) v.Window) (List.getD h.Components id.Comp.toNat [])) (dropD v) (dropD v)) (m_A6 (m_B0 h tile id.Comp) p.Levels (IntKind.wrap .i64 (p.Levels - v.Drop)))) with
      | true => rw [inter_of_empty (Need_none hE _)] at hn; cases hn
      | false =>
        have hle := Need_le hok hE hs2 id.Band.toNat
        have hin := inter_inside hn
        show m_H2 (m_C6 id.Rect (SRect.of (List.getD (m_F0 (m_B0 h tile id.Comp) p.Levels (IntKind.wrap .i64 (p.Levels - v.Drop)) (m_F4 (m_F4 (SRect.of (List.getD (m_E7 h) tile.toNat [])) (SComponent.of (List.getD h.Components id.Comp.toNat [])).DX (SComponent.of (List.getD h.Components id.Comp.toNat [])).DY) (dropD v) (dropD v)) p.Kernel) id.Band.toNat []))) = false
        have hA : ∀ {a b c : SRect}, LeR b c -> m_H2 (m_C6 a b) = false -> m_H2 (m_C6 a c) = false := by
          intro a b c hbc hab
          rcases hbc with rfl | hs
          · exact hab
          · obtain ⟨i1, i2⟩ := inter_inside hab
            unfold Inside at i1 i2
            unfold Sub at hs
            rw [Intersect_eq, if_pos ⟨by omega, by omega⟩]
            exact Empty_f.2 ⟨by simp only []; omega, by simp only []; omega⟩
        exact hA hle hn
theorem CeilDiv_one {x : Int} (hx : 0 <= x) (hx2 : x <= 4096) : m_E3 x 1 = x := by
  rw [CeilDiv_alt hx hx2 (by omega), Int.ediv_one]; omega
theorem Reduce_one {r : SRect} (hv : m_H1 r = true) : m_F4 r 1 1 = r := by
  obtain ⟨⟨h1, h2, h3⟩, h4, h5, h6⟩ := Valid_iff.1 hv
  rw [Reduce_eq, if_pos ⟨hv, by omega, by omega⟩, CeilDiv_one h1 (by omega), CeilDiv_one h4 (by omega), CeilDiv_one (x := r.X1) (by omega) h3, CeilDiv_one (x := r.Y1) (by omega) h6]
theorem res_top {r : SRect} {l : Int} (hl : 0 <= l /\ l <= 5) (hv : m_H1 r = true) : m_A6 r l l = r := by
  rw [Resolution_eq, if_pos ⟨hl, by omega, by omega⟩, Int.sub_self]
  exact Reduce_one hv
theorem res_up (r : SRect) {l : Int} (hl : 0 <= l /\ l <= 5) : ∀ (k : Nat) (n : Int), 0 <= n -> n + (k : Int) <= l -> m_H2 (m_A6 r l n) = false -> m_H2 (m_A6 r l (n + (k : Int))) = false
  | 0, n, _, _, h => by rw [show n + ((0 : Nat) : Int) = n by omega]; exact h
  | k + 1, n, h0, h1, h => by
    have := res_up r hl k n h0 (by omega) h
    rw [show n + ((k + 1 : Nat) : Int) = n + (k : Int) + 1 by omega]
    exact res_empty r hl (by omega) (by omega) this
theorem band_ne {r : SRect} {l : Int} (hl : 0 <= l /\ l <= 5) (hv : m_H1 r = true) {b : Int} (b0 : 0 <= b) (b1 : b <= 3 * l) (h : m_H2 (m_F1 r l b) = false) : m_H2 r = false := by
  by_cases hz : b = 0
  · subst hz
    have hp : m_D6 0 l = (l, 0, true) := by rw [pyramid_Place_eq, pyramid_Count_eq, if_pos hl, if_pos (by omega), if_pos rfl]
    rw [Band_eq, hp, if_pos ⟨rfl, hv⟩, if_pos rfl] at h
    have := res_up r hl l.toNat 0 (by omega) (by omega) h
    rw [show (0 : Int) + ((l.toNat : Nat) : Int) = l by omega, res_top hl hv] at this
    exact this
  · obtain ⟨n, hn⟩ : ∃ n : Nat, (b + 2) / 3 = (n : Int) + 1 := ⟨((b + 2) / 3 - 1).toNat, by omega⟩
    have hn1 : (n : Int) + 1 <= l := by omega
    obtain ⟨e1, e2, e3⟩ := band_at (r := r) hl hv hn1
    have hne : m_H2 (m_A6 r l ((n : Int) + 1)) = false := by
      rw [<- Bool.not_eq_true]
      intro he
      obtain ⟨_, p1, p2, p3⟩ := parts_empty (Resolution_valid r l ((n : Int) + 1)) he
      have : b = 3 * (n : Int) + 1 \/ b = 3 * (n : Int) + 2 \/ b = 3 * (n : Int) + 3 := by omega
      rcases this with rfl | rfl | rfl
      · rw [e1, p1] at h; cases h
      · rw [e2, p2] at h; cases h
      · rw [e3, p3] at h; cases h
    have := res_up r hl (l - ((n : Int) + 1)).toNat ((n : Int) + 1) (by omega) (by omega) hne
    rw [show (n : Int) + 1 + (((l - ((n : Int) + 1)).toNat : Nat) : Int) = l by omega, res_top hl hv] at this
    exact this
theorem Need_whole {r : SRect} {l k : Int} (h : needOK r l l k = true) {b : Int} (b0 : 0 <= b) (b1 : b <= 3 * l) (hb : m_H2 (m_F1 r l b) = false) : SRect.of (List.getD (m_F0 r l l r k) b.toNat []) = m_F1 r l b := by
  obtain ⟨hv, hl, hr, hk⟩ := needOK_iff.1 h
  have hmb := Margin_bd k
  have hne := band_ne hl hv b0 b1 hb
  obtain ⟨g1, g2⟩ := Empty_f.1 hne
  have hW : m_C6 r (m_A6 r l l) = r := by
    rw [res_top hl hv, Intersect_eq, if_pos ⟨by omega, by omega⟩]
    obtain ⟨x0, y0, x1, y1⟩ := r
    simp only [SRect.mk.injEq]
    omega
  have hll : ((l.toNat : Nat) : Int) = l := by omega
  have hfull := need_full r l (m_F2 k) hl hmb hv l.toNat (List.replicate (3 * l + 1).toNat (SRect.row ⟨0, 0, 0, 0⟩)) r (by omega) List.length_replicate hv (fun _ => by rw [hll, res_top hl hv])
  rw [Need_at h (by rw [hW]; exact hne), hW, getD_set]
  by_cases hz : b = 0
  · subst hz
    have hp : m_D6 0 l = (l, 0, true) := by rw [pyramid_Place_eq, pyramid_Count_eq, if_pos hl, if_pos (by omega), if_pos rfl]
    have hB : m_F1 r l 0 = m_A6 r l 0 := by rw [Band_eq, hp, if_pos ⟨rfl, hv⟩, if_pos rfl]
    rw [hB] at hb ⊢
    have hlen := (needN_ok r l (m_F2 k) l.toNat _ _ r (R4_zero (3 * l + 1).toNat) hv).1.1
    have hlt : (0 : Int).toNat < (needN r l (m_F2 k) l.toNat (List.replicate (3 * l + 1).toNat (SRect.row ⟨0, 0, 0, 0⟩)) r).1.length := by
      rw [hlen]
      show 0 < _
      omega
    rw [if_pos ⟨rfl, hlt⟩, hfull.2 hb]
    rfl
  · rw [if_neg (fun hh => hz (by omega))]
    have := hfull.1 b.toNat (by omega) (by omega) (by rw [show ((b.toNat : Nat) : Int) = b by omega]; exact hb)
    rw [this, show ((b.toNat : Nat) : Int) = b by omega]
theorem needed_all {h : SHeader} {p : SParams} {tile : Int} (he : m_D7 h p tile 0 = true) {i : Int} (h0 : 0 <= i) (h1 : i < ((m_G6 h p tile).length : Int)) : blockNeeded h p tile ⟨0, 0, ⟨0, 0, 0, 0⟩⟩ (idAt (m_G6 h p tile) i) = true := by
  obtain ⟨hc, ht, _⟩ := exists_iff.1 he
  obtain ⟨_, hk, hn, _, _⟩ := check_ok hc
  have hL := (numB_iff hn).1
  obtain ⟨hcomp, hb0, hb1⟩ := All_at h0 h1
  have hi : i.toNat < (m_G6 h p tile).length := by omega
  have hins : Inside (idAt (m_G6 h p tile) i).Rect (m_F1 (m_B0 h tile (idAt (m_G6 h p tile) i).Comp) p.Levels (idAt (m_G6 h p tile) i).Band) := by
    unfold idAt
    rw [List.getD_eq_getElem?_getD, List.getElem?_eq_getElem hi]
    exact All_inside (List.getElem_mem hi)
  have hok := blocks_law (v := ⟨0, 0, ⟨0, 0, 0, 0⟩⟩) he ⟨Int.le_refl 0, hL.1⟩ h0 h1
  unfold blockNeeded needOf
  rw [partOf_noWin, <- Component_at ht hcomp]
  have hd1 : dropD ⟨0, 0, ⟨0, 0, 0, 0⟩⟩ = 1 := by unfold dropD; exact shl_one (a := 0) (by omega) (by omega)
  rw [hd1, Reduce_one (Component_valid _ _ _)]
  show (!m_H2 (m_C6 (idAt (m_G6 h p tile) i).Rect (SRect.of (List.getD (m_F0 (m_B0 h tile (idAt (m_G6 h p tile) i).Comp) p.Levels (IntKind.wrap .i64 (p.Levels - 0)) (m_B0 h tile (idAt (m_G6 h p tile) i).Comp) p.Kernel) (idAt (m_G6 h p tile) i).Band.toNat [])))) = true
  have hwl : IntKind.wrap .i64 (p.Levels - 0) = p.Levels := by rw [Int.sub_zero]; exact w64 (by omega) (by omega)
  have hok : needOK (m_B0 h tile (idAt (m_G6 h p tile) i).Comp) p.Levels (IntKind.wrap .i64 (p.Levels - 0)) p.Kernel = true := hok
  rw [hwl] at hok ⊢
  rw [Need_whole hok hb0 hb1 hins.ne', Bool.not_eq_true']
  unfold Inside at hins
  rw [Intersect_eq, if_pos ⟨by omega, by omega⟩]
  exact Empty_f.2 ⟨by simp only []; omega, by simp only []; omega⟩
def areaOf (h : SHeader) (v : SView) : SRect := bif !isWhole v.Window then m_C6 h.Area v.Window else h.Area
def outOf (h : SHeader) (v : SView) : SHeader := ⟨m_F4 (areaOf h v) (dropD v) (dropD v), 4096, 4096, h.Components⟩
theorem Reduced_iff (h : SHeader) (p : SParams) (v : SView) : (m_B7 h p v).2 = 0 ↔ m_E2 h p = 0 /\ (0 <= v.Layers /\ v.Layers <= 16) /\ (0 <= v.Drop /\ v.Drop <= p.Levels) /\ (isWhole v.Window = true \/ (m_H1 v.Window = true /\ m_H2 (m_C6 h.Area v.Window) = false)) /\ m_C9 (outOf h v) = 0 := by
  unfold m_B7
  by_cases hc : m_E2 h p = 0
  · have hcl := clone_pre (check_comps hc)
    have hce := clone_eq (check_comps hc)
    unfold noParams at hcl hce
    simp only [hc, hcl, hce, wrapu_nonneg, decide_true, cond_true, bne_self_eq_false, cond_false, true_and]
    cases hb : (bif (bif (bif decide (v.Layers < 0) then true else decide (v.Layers > 16)) then true else decide (v.Drop < 0)) then true else decide (v.Drop > p.Levels)) with
    | true =>
      have e : ∀ (a b : Bool), (bif a then true else b) = (a || b) := by intro a b; cases a <;> rfl
      simp only [e, Bool.or_eq_true, decide_eq_true_eq] at hb
      refine ⟨fun h => absurd (show (2 : Int) = 0 from h) (by decide), fun h => ?_⟩
      obtain ⟨h1, h2, _⟩ := h
      omega
    | false =>
      have e : ∀ (a b : Bool), (bif a then true else b) = (a || b) := by intro a b; cases a <;> rfl
      simp only [e, Bool.or_eq_false_iff, decide_eq_false_iff_not] at hb
      have hk : ∀ (q : Prop), q ↔ ((0 <= v.Layers /\ v.Layers <= 16) /\ (0 <= v.Drop /\ v.Drop <= p.Levels) /\ q) := fun q => ⟨fun h => ⟨by omega, by omega, h⟩, fun h => h.2.2⟩
      rw [<- hk]
      have hh : ∀ (x : SHeader), (bif (m_C9 x != 0) then ((⟨⟨0, 0, 0, 0⟩, 0, 0, []⟩ : SHeader), (2 : Int)) else (x, 0)).2 = 0 ↔ m_C9 x = 0 := by
        intro x
        by_cases hx : m_C9 x = 0
        · rw [hx]; exact ⟨fun _ => rfl, fun _ => rfl⟩
        · rw [bne_iff_ne.2 hx]
          exact ⟨fun h => absurd (show (2 : Int) = 0 from h) (by decide), fun h => absurd h hx⟩
      show (bif !isWhole v.Window then _ else _ : SHeader × Int).2 = 0 ↔ _
      cases hw : isWhole v.Window with
      | true =>
        have ho : outOf h v = ⟨m_F4 h.Area (dropD v) (dropD v), 4096, 4096, h.Components⟩ := by unfold outOf areaOf; rw [hw]; rfl
        rw [ho]
        simp only [Bool.not_true, cond_false, true_or, true_and]
        exact hh _
      | false =>
        have ho : outOf h v = ⟨m_F4 (m_C6 h.Area v.Window) (dropD v) (dropD v), 4096, 4096, h.Components⟩ := by unfold outOf areaOf; rw [hw]; rfl
        rw [ho]
        simp only [Bool.not_false, cond_true, Bool.false_eq_true, false_or]
        cases hv : m_H1 v.Window with
        | false => exact ⟨fun h => absurd (show (2 : Int) = 0 from h) (by decide), fun h => absurd h.1.1 (by decide)⟩
        | true =>
          cases he : m_H2 (m_C6 h.Area v.Window) with
          | true => exact ⟨fun h => absurd (show (2 : Int) = 0 from h) (by decide), fun h => absurd h.1.2 (by decide)⟩
          | false =>
            simp only [Bool.not_true, beq_self_eq_true, cond_true, cond_false, true_and]
            exact hh _
  · have hne := bne_iff_ne.2 hc
    simp only [hne, cond_true]
    exact ⟨fun h => absurd h hc, fun h => absurd h.1 hc⟩
theorem few_dims {h : SHeader} {p : SParams} (hf : m_J9 h p = true) (hh : m_C9 h = 0) : h.Area.X1 - h.Area.X0 <= 40 /\ h.Area.Y1 - h.Area.Y0 <= 40 := by
  obtain ⟨⟨⟨a1, a2, a3⟩, a4, a5, a6⟩, _⟩ := And.intro (Valid_iff.1 (headOK_iff (head_ok hh).1).1) trivial
  unfold m_J9 at hf
  cases h1 : (decide ((h.Components.length : Int) > 10) || decide ((p.Precincts.length : Int) > 10) || decide ((p.Steps.length : Int) > 40)) with
  | true => rw [h1] at hf; cases hf
  | false =>
    rw [h1, cond_false, show (m_C9 h != 0) = false by rw [hh]; rfl, cond_false] at hf
    cases h2 : (decide (IntKind.wrap .i64 (h.Area.X1 - h.Area.X0) > 40) || decide (IntKind.wrap .i64 (h.Area.Y1 - h.Area.Y0) > 40) || decide (((m_E7 h).length : Int) > 16)) with
    | true => rw [h2] at hf; cases hf
    | false =>
      simp only [Bool.or_eq_false_iff, decide_eq_false_iff_not] at h2
      rw [w64 (n := h.Area.X1 - h.Area.X0) (by omega) (by omega), w64 (n := h.Area.Y1 - h.Area.Y0) (by omega) (by omega)] at h2
      omega
theorem ceil_dim {x y w : Int} (hx : 0 <= x) (hxy : x <= y) (hy : y <= 4096) (hw : 1 <= w) : m_E3 y w - m_E3 x w <= y - x := by
  rw [CeilDiv_alt hx (by omega) hw, CeilDiv_alt (by omega) hy hw]
  have h1 : y + w - 1 <= (x + w - 1) + w * (y - x) := by
    have : 1 * (y - x) <= w * (y - x) := Int.mul_le_mul_of_nonneg_right hw (by omega)
    omega
  have h2 : (y + w - 1) / w <= ((x + w - 1) + w * (y - x)) / w := Int.ediv_le_ediv (by omega) h1
  rw [Int.add_mul_ediv_left _ _ (by omega)] at h2
  omega
def Small (r : SRect) : Prop := m_H1 r = true /\ r.X1 - r.X0 <= 40 /\ r.Y1 - r.Y0 <= 40
theorem Small.reduce {r : SRect} (h : Small r) (dx dy : Int) : Small (m_F4 r dx dy) := by
  refine ⟨Reduce_valid _ _ _, ?_⟩
  obtain ⟨hv, h1, h2⟩ := h
  obtain ⟨⟨a1, a2, a3⟩, a4, a5, a6⟩ := Valid_iff.1 hv
  rw [Reduce_eq]
  split
  · rename_i hh
    have c1 := ceil_dim (w := dx) a1 a2 a3 hh.2.1.1
    have c2 := ceil_dim (w := dy) a4 a5 a6 hh.2.2.1
    exact ⟨by simp only []; omega, by simp only []; omega⟩
  · exact ⟨by simp only []; omega, by simp only []; omega⟩
theorem Small.area {r : SRect} (h : Small r) : ¬ m_H9 r > 1048576 := by
  obtain ⟨hv, h1, h2⟩ := h
  obtain ⟨⟨a1, a2, a3⟩, a4, a5, a6⟩ := Valid_iff.1 hv
  unfold m_H9
  simp only [hv, Bool.not_true, cond_false]
  have hm : (r.X1 - r.X0) * (r.Y1 - r.Y0) <= 40 * 40 := Int.mul_le_mul h1 h2 (by omega) (by omega)
  have hm0 : 0 <= (r.X1 - r.X0) * (r.Y1 - r.Y0) := Int.mul_nonneg (by omega) (by omega)
  rw [w64 (n := r.X1 - r.X0) (by omega) (by omega), w64 (n := r.Y1 - r.Y0) (by omega) (by omega), w64 (by omega) (by omega)]
  omega
theorem header_small {A : SRect} {l : Rows} (hs : Small A) (he : m_H2 A = false) (h1 : 1 <= l.length) (h4 : l.length <= 4) (hc : l.all (compOK A) = true) : m_C9 ⟨A, 4096, 4096, l⟩ = 0 := by
  obtain ⟨⟨a1, a2, a3⟩, a4, a5, a6⟩ := Valid_iff.1 hs.1
  have hok : headOK ⟨A, 4096, 4096, l⟩ = true := by
    unfold headOK
    simp only [hs.1, he, Bool.not_false, Bool.and_true, Bool.true_and]
    rw [Bool.and_eq_true]
    exact ⟨by decide, inB_iff.2 ⟨by omega, by omega⟩⟩
  have hn : ¬ nTiles ⟨A, 4096, 4096, l⟩ > 1024 := by
    unfold nTiles
    simp only []
    have c1 := CeilDiv_alt (x := A.X1) (w := 4096) (by omega) (by omega) (by omega)
    have c2 := CeilDiv_alt (x := A.Y1) (w := 4096) (by omega) (by omega) (by omega)
    have f1 := FloorDiv_bd (x := A.X0) (w := 4096) a1 (by omega) (by omega)
    have f2 := FloorDiv_bd (x := A.Y0) (w := 4096) a4 (by omega) (by omega)
    have f3 := FloorDiv_eq (x := A.X0) (w := 4096) a1 (by omega) (by omega)
    have f4 := FloorDiv_eq (x := A.Y0) (w := 4096) a4 (by omega) (by omega)
    rw [c1, c2, f3, f4] at *
    have d1 : 0 <= (A.X1 + 4096 - 1) / 4096 - A.X0 / 4096 /\ (A.X1 + 4096 - 1) / 4096 - A.X0 / 4096 <= 1 := by omega
    have d2 : 0 <= (A.Y1 + 4096 - 1) / 4096 - A.Y0 / 4096 /\ (A.Y1 + 4096 - 1) / 4096 - A.Y0 / 4096 <= 1 := by omega
    have hm : ((A.X1 + 4096 - 1) / 4096 - A.X0 / 4096) * ((A.Y1 + 4096 - 1) / 4096 - A.Y0 / 4096) <= 1 * 1 := Int.mul_le_mul d1.2 d2.2 d2.1 (by omega)
    have hm0 : 0 <= ((A.X1 + 4096 - 1) / 4096 - A.X0 / 4096) * ((A.Y1 + 4096 - 1) / 4096 - A.Y0 / 4096) := Int.mul_nonneg d1.1 d2.1
    rw [w64 (n := (A.X1 + 4096 - 1) / 4096 - A.X0 / 4096) (by omega) (by omega), w64 (n := (A.Y1 + 4096 - 1) / 4096 - A.Y0 / 4096) (by omega) (by omega), w64 (by omega) (by omega)]
    omega
  have hf : l.all (compFits A) = true := by
    rw [List.all_eq_true]
    intro w _
    unfold compFits
    rw [decide_eq_false (hs.reduce _ _).area]
    rfl
  unfold m_C9
  rw [hok]
  simp only [hc, hf, decide_eq_false hn, Bool.and_self, cond_true, cond_false]
theorem compOK_mono {a b : SRect} (ha : m_H1 a = true) (hb : m_H1 b = true) (hs : Sub a b) {l : Rows} (h : l.all (compOK a) = true) : l.all (compOK b) = true := by
  rw [List.all_eq_true] at h ⊢
  intro w hw
  have := h w hw
  unfold compOK at this ⊢
  rw [Bool.and_eq_true, Bool.not_eq_true'] at this ⊢
  refine ⟨this.1, ?_⟩
  have hr := Reduce_sub ha hb hs (SComponent.of w).DX (SComponent.of w).DY
  have he := Empty_f.1 this.2
  unfold Sub at hr
  exact Empty_f.2 (by omega)
theorem views_ok {h : SHeader} {p : SParams} {v : SView} (hf : m_J9 h p = true) (hz : (m_B7 h p v).2 = 0) :
    (m_B7 h p (noWin v)).2 = 0 /\ (m_B7 h p ⟨0, 0, ⟨0, 0, 0, 0⟩⟩).2 = 0 /\ (m_B7 h p ⟨0, v.Drop, v.Window⟩).2 = 0 := by
  obtain ⟨hc, hl, hd, hw, hout⟩ := (Reduced_iff h p v).1 hz
  have hh := (check_ok hc).1
  have hL := (numB_iff (check_ok hc).2.2.1).1
  obtain ⟨hk, hall, _, _⟩ := head_ok hh
  obtain ⟨hv, hne, _, _, hn1, hn4⟩ := headOK_iff hk
  have hdim := few_dims hf hh
  have hsm : Small h.Area := ⟨hv, hdim⟩
  obtain ⟨hk', hall', _, _⟩ := head_ok hout
  obtain ⟨hv', hne', _⟩ := headOK_iff hk'
  have hsub : Sub (areaOf h v) h.Area /\ m_H1 (areaOf h v) = true := by
    unfold areaOf
    cases hwv : isWhole v.Window with
    | true => exact ⟨sub_self hv, hv⟩
    | false =>
      rcases hw with hw | ⟨_, hw⟩
      · rw [hwv] at hw; cases hw
      · obtain ⟨⟨t1, _⟩, t4, _⟩ := Valid_iff.1 hv
        exact ⟨(inter_inside hw).1.sub, Intersect_valid (Or.inl hv) (Or.inl t1) (Or.inl t4)⟩
  have hsr := Reduce_sub hsub.2 hv hsub.1 (dropD v) (dropD v)
  have hone : ∀ d : Int, m_H2 (m_F4 h.Area d d) = false -> h.Components.all (compOK (m_F4 h.Area d d)) = true -> m_C9 ⟨m_F4 h.Area d d, 4096, 4096, h.Components⟩ = 0 := fun d h1 h2 => header_small (hsm.reduce d d) h1 hn1 hn4 h2
  refine ⟨(Reduced_iff _ _ _).2 ⟨hc, ⟨Int.le_refl 0, by show (0 : Int) <= 16; decide⟩, hd, .inl rfl, ?_⟩, (Reduced_iff _ _ _).2 ⟨hc, ⟨Int.le_refl 0, by show (0 : Int) <= 16; decide⟩, ⟨Int.le_refl 0, hL.1⟩, .inl rfl, ?_⟩, (Reduced_iff _ _ _).2 ⟨hc, ⟨Int.le_refl 0, by show (0 : Int) <= 16; decide⟩, hd, hw, hout⟩⟩
  · refine hone (dropD v) ?_ (compOK_mono (Reduce_valid _ _ _) (Reduce_valid _ _ _) hsr hall')
    have he := Empty_f.1 hne'
    unfold Sub at hsr
    exact Empty_f.2 (by unfold outOf at he; simp only [] at he; omega)
  · have hd1 : dropD ⟨0, 0, ⟨0, 0, 0, 0⟩⟩ = 1 := by unfold dropD; exact shl_one (a := 0) (by omega) (by omega)
    show m_C9 ⟨m_F4 h.Area (dropD ⟨0, 0, ⟨0, 0, 0, 0⟩⟩) (dropD ⟨0, 0, ⟨0, 0, 0, 0⟩⟩), 4096, 4096, h.Components⟩ = 0
    rw [hd1]
    refine hone 1 ?_ ?_
    · rw [Reduce_one hv]; exact hne
    · rw [Reduce_one hv]; exact hall
theorem Needed_err {h : SHeader} {p : SParams} {t : Int} {v : SView} (he : (m_D2 h p t v).2 ≠ 0) : (m_D2 h p t v).1 = [] := by
  unfold m_D2 at he ⊢
  cases hr : ((m_B7 h p v).2 != 0) with
  | true => rfl
  | false =>
    rw [hr] at he
    cases ht : (decide (t < 0) || decide (t >= ((m_E7 h).length : Int))) with
    | true => rfl
    | false => rw [ht] at he; exact absurd rfl he
theorem Needed_fine {h : SHeader} {p : SParams} {t : Int} {v : SView} (he : (m_D2 h p t v).2 = 0) : (m_B7 h p v).2 = 0 /\ 0 <= t /\ t < ((m_E7 h).length : Int) := by
  unfold m_D2 at he
  by_cases hr : (m_B7 h p v).2 = 0
  · refine ⟨hr, ?_⟩
    rw [show ((m_B7 h p v).2 != 0) = false by rw [hr]; rfl, cond_false] at he
    cases ht : (decide (t < 0) || decide (t >= ((m_E7 h).length : Int))) with
    | true => rw [ht] at he; exact absurd (show (14 : Int) = 0 from he) (by decide)
    | false =>
      simp only [Bool.or_eq_false_iff, decide_eq_false_iff_not] at ht
      omega
  · rw [bne_iff_ne.2 hr] at he
    exact absurd he hr
theorem Needed_val {h : SHeader} {p : SParams} {t : Int} {v : SView} (hr : (m_B7 h p v).2 = 0) (ht : 0 <= t /\ t < ((m_E7 h).length : Int)) : m_D2 h p t v = ((m_G6 h p t).map fun w => [V.bool (blockNeeded h p t v (SBlockID.of w))], 0) := by
  unfold m_D2
  have d1 : ¬ t < 0 := by omega
  have d2 : ¬ t >= ((m_E7 h).length : Int) := by omega
  rw [show ((m_B7 h p v).2 != 0) = false by rw [hr]; rfl, decide_eq_false d1, decide_eq_false d2]
  rfl
theorem at_map (l : Rows) (f : List V -> List V) {i : Int} (h0 : 0 <= i) (h1 : i < (l.length : Int)) : List.getD (l.map f) i.toNat [] = f (List.getD l i.toNat []) := by
  have hi : i.toNat < l.length := by omega
  rw [List.getD_eq_getElem?_getD, List.getElem?_map, List.getD_eq_getElem?_getD, List.getElem?_eq_getElem hi]
  rfl
theorem rng_any {α : Type} (f : List α -> Bool) (l : List (List α)) : (rngI 0 (l.length : Int)).any (fun i => f (l.getD i.toNat [])) = l.any f := by
  have := rng_rows f l
  have e : ∀ (m : List Int) (p : Int -> Bool), m.any p = (m.map p).any id := by intro m p; simp
  rw [e, this]; simp
theorem foldl_any {α : Type} (p : α -> Bool) : ∀ (l : List α) (s : Bool), l.foldl (fun s x => bif s then true else p x) s = (s || l.any p)
  | [], s => by simp
  | x :: l, s => by
    rw [List.foldl_cons, foldl_any p l, List.any_cons]
    cases s <;> rfl
theorem Counts_0 (l : Rows) (a b d : List V -> Bool) (x : SL39_Place) (q1 q2 : Int) (q3 : SRect) (hl : l.length <= 1099511627776) (hab : ∀ i, 0 <= i -> i < (l.length : Int) -> a (List.getD l i.toNat []) = true -> b (List.getD l i.toNat []) = true) (had : ∀ w, a w = d w) (e : Option R) (kr : V -> Option R) (m : Nat) (hm : ((l.length : Int) - 0).toNat + 1 <= m) :
    loop_B2_0 (l.map fun w => [V.bool (a w)]) (l.map fun w => [V.bool (b w)]) (l.map fun w => [V.bool (d w)]) (l.length : Int) x q1 q2 q3 m 0 (fun _ => e) kr = e := by
  refine (loop_allB (a := 0) (b := (l.length : Int)) (L := fun m i => loop_B2_0 (l.map fun w => [V.bool (a w)]) (l.map fun w => [V.bool (b w)]) (l.map fun w => [V.bool (d w)]) (l.length : Int) x q1 q2 q3 m i (fun _ => e) kr) (ok := fun _ => true) (e := e) (x := kr (V.bool false)) (fun m i h0 => ?_) m hm).trans (by rw [all_true]; rfl)
  show step_B2_0 _ _ _ (l.length : Int) x q1 q2 q3 i _ _ kr = _
  unfold step_B2_0
  by_cases hi : i < (l.length : Int)
  · have i1 : inR i (l.map fun w => [V.bool (a w)]).length = true := inR_of h0 (by rw [List.length_map]; exact hi)
    have i2 : inR i (l.map fun w => [V.bool (b w)]).length = true := inR_of h0 (by rw [List.length_map]; exact hi)
    have i3 : inR i (l.map fun w => [V.bool (d w)]).length = true := inR_of h0 (by rw [List.length_map]; exact hi)
    simp only [decide_eq_true hi, cond_true, i1, i2, i3, Bool.true_or, at_map l _ h0 hi]
    rw [w64 (n := i + 1) (by omega) (by omega)]
    have h1 := hab i h0 hi
    have h2 := had (List.getD l i.toNat [])
    show (bif (bif (bif a (List.getD l i.toNat []) then !b (List.getD l i.toNat []) else false) then true else !(a (List.getD l i.toNat []) == d (List.getD l i.toNat []))) then _ else _) = _
    rw [<- h2]
    cases ha : a (List.getD l i.toNat []) with
    | false => rfl
    | true => rw [h1 ha]; rfl
  · simp only [decide_eq_false hi, cond_false]
theorem Counts_2 (q l : Rows) (x : SL39_Place) (hl : l.length <= 1099511627776) (e : Bool -> Option R) (m : Nat) (hm : ((l.length : Int) - 0).toNat + 1 <= m) :
    loop_B2_2 q l (l.length : Int) x m false 0 (fun z _ => e z) = e (l.any fun w => V.toInt (List.getD w 0 V.undef) == x.Tile) := by
  refine (loop_foldB (b := (l.length : Int)) (L := fun n i s => loop_B2_2 q l (l.length : Int) x n s i (fun z _ => e z)) (g := fun s i => bif s then true else (fun w => V.toInt (List.getD w 0 V.undef) == x.Tile) (List.getD l i.toNat [])) (e := e) (fun i t => 0 <= i) ?_ ?_ m 0 false (Int.le_refl 0) hm).trans ?_
  · intro n i t h0
    show step_B2_2 q l (l.length : Int) x t i _ _ = _
    unfold step_B2_2
    by_cases hi : i < (l.length : Int)
    · simp only [decide_eq_true hi, cond_true, inR_of h0 hi]
      rw [w64 (n := i + 1) (by omega) (by omega)]
    · simp only [decide_eq_false hi, cond_false]
  · intro i t h0 hi
    show 0 <= i + 1
    omega
  · rw [foldl_any (fun (i : Int) => (fun w => V.toInt (List.getD w 0 V.undef) == x.Tile) (List.getD l i.toNat [])), rng_any (fun w => V.toInt (List.getD w 0 V.undef) == x.Tile), Bool.false_or]
theorem count_all {l : Rows} {f : List V -> Bool} (hf : ∀ w ∈ l, f w = true) : m_I7 (l.map fun w => [V.bool (f w)]) = (l.length : Int) := by
  unfold m_I7
  rw [filter_all, List.length_map]
  intro x hx
  obtain ⟨w, hw, rfl⟩ := List.mem_map.1 hx
  exact hf w hw
theorem count_none {l : Rows} {f : List V -> Bool} (hf : ∀ w ∈ l, f w = false) : m_I7 (l.map fun w => [V.bool (f w)]) = 0 := by
  unfold m_I7
  have : (l.map fun w => [V.bool (f w)]).filter (fun w => V.toBool (List.getD w 0 V.undef)) = [] := by
    rw [List.filter_eq_nil_iff]
    intro x hx
    obtain ⟨w, hw, rfl⟩ := List.mem_map.1 hx
    show ¬ f w = true
    rw [hf w hw]
    decide
  rw [this]; rfl
theorem LCounts_spec (x : SL39_Place) (v : SView) : spec_B2 x v some = some (V.bool true) := by
  unfold spec_B2
  cases hf : m_J9 x.Header x.Params with
  | false => rfl
  | true =>
    simp only [Bool.not_true, cond_false]
    by_cases he : (m_D2 x.Header x.Params x.Tile v).2 = 0
    · obtain ⟨hr, ht⟩ := Needed_fine he
      obtain ⟨r1, r2, r3⟩ := views_ok hf hr
      obtain ⟨hc, hl, hd, hw, hout⟩ := (Reduced_iff x.Header x.Params v).1 hr
      have hh := (check_ok hc).1
      have h4 := head_comps hh
      have hex : m_D7 x.Header x.Params x.Tile 0 = true := exists_iff.2 ⟨hc, ht, by omega, by omega⟩
      have n0 := Needed_val hr ht
      have n1 := Needed_val (v := noWin v) r1 ht
      have n2 := Needed_val r2 ht
      have n3 := Needed_val r3 ht
      unfold noWin at n1
      have hlen := All_length (h := x.Header) (p := x.Params) (tile := x.Tile)
      rw [n0, n1, n2, n3]
      have hcnt := count_all (l := m_G6 x.Header x.Params x.Tile) (f := fun w => blockNeeded x.Header x.Params x.Tile ⟨0, 0, ⟨0, 0, 0, 0⟩⟩ (SBlockID.of w)) (fun w hw => by
        obtain ⟨i, hi, he⟩ := List.getElem_of_mem hw
        have := needed_all hex (i := (i : Int)) (by omega) (by omega)
        unfold idAt at this
        rw [Int.toNat_natCast, List.getD_eq_getElem?_getD, List.getElem?_eq_getElem hi, Option.getD_some, he] at this
        exact this)
      have hpre : ∀ f : List V -> List V, pre_I7 ((m_G6 x.Header x.Params x.Tile).map f) = true := by
        intro f
        unfold pre_I7
        rw [List.length_map]
        exact Nat.ble_eq_true_of_le hlen
      simp only [bne_self_eq_false, cond_false, cond_true, beq_self_eq_true, List.length_map, hpre, hcnt]
      refine (Counts_0 (m_G6 x.Header x.Params x.Tile) (fun w => blockNeeded x.Header x.Params x.Tile v (SBlockID.of w)) (fun w => blockNeeded x.Header x.Params x.Tile (noWin v) (SBlockID.of w)) (fun w => blockNeeded x.Header x.Params x.Tile ⟨0, v.Drop, v.Window⟩ (SBlockID.of w)) x 0 v.Drop v.Window hlen (fun i h0 h1 hn => needed_mono hex hd h0 h1 hn) (fun w => rfl) _ some _ (Nat.le_refl _)).trans ?_
      have htl := mTiles_length x.Header ⟨0, v.Drop, v.Window⟩
      refine (Counts_2 _ (m_E9 x.Header ⟨0, v.Drop, v.Window⟩) x (by omega) (fun z => bif (z == false) then _ else _) _ (Nat.le_refl _)).trans ?_
      cases hany : (m_E9 x.Header ⟨0, v.Drop, v.Window⟩).any (fun w => V.toInt (List.getD w 0 V.undef) == x.Tile) with
      | true => rfl
      | false =>
        have hkeep : isWhole v.Window = false /\ m_H2 (m_C6 (SRect.of (List.getD (m_E7 x.Header) x.Tile.toNat [])) v.Window) = true := by
          have hcond : ((m_C9 x.Header == 0) && (isWhole v.Window || m_H1 v.Window)) = true := by
            rw [hh]
            rcases hw with hw | hw
            · rw [hw]; rfl
            · rw [hw.1, Bool.or_true]; rfl
          have hT : m_E9 x.Header ⟨0, v.Drop, v.Window⟩ = ((rngI 0 ((m_E7 x.Header).length : Int)).filter fun i => isWhole v.Window || !m_H2 (m_C6 (SRect.of (List.getD (m_E7 x.Header) i.toNat [])) v.Window)).map fun i => [V.int .i64 i] := by
            unfold m_E9
            rw [hcond]; rfl
          rw [hT, List.any_eq_false] at hany
          have hk : (isWhole v.Window || !m_H2 (m_C6 (SRect.of (List.getD (m_E7 x.Header) x.Tile.toNat [])) v.Window)) = false := by
            rw [<- Bool.not_eq_true]
            intro hk
            have hm : [V.int .i64 x.Tile] ∈ ((rngI 0 ((m_E7 x.Header).length : Int)).filter fun i => isWhole v.Window || !m_H2 (m_C6 (SRect.of (List.getD (m_E7 x.Header) i.toNat [])) v.Window)).map fun i => [V.int .i64 i] :=
              List.mem_map.2 ⟨x.Tile, List.mem_filter.2 ⟨mem_rngI.2 ht, hk⟩, rfl⟩
            exact hany _ hm (beq_self_eq_true x.Tile)
          rw [Bool.or_eq_false_iff, Bool.not_eq_false'] at hk
          exact hk
        have hzero := count_none (l := m_G6 x.Header x.Params x.Tile) (f := fun w => blockNeeded x.Header x.Params x.Tile v (SBlockID.of w)) (fun w _ => needed_none hkeep.1 hkeep.2 _)
        simp only [beq_self_eq_true, cond_true, hpre, hzero]
        rfl
    · have hne := bne_iff_ne.2 he
      simp only [hne, cond_true, Needed_err he]
      rfl
theorem good_B2_of (h1 : G_J9) (h2 : G_J0) (h3 : G_D2) (h4 : G_E9) (h5 : G_G6) (h6 : G_I7) : G_B2 := mk_B2 h1 h2 h3 h4 h5 h6 fun x v _ => LCounts_spec x v
end Go.Vm
