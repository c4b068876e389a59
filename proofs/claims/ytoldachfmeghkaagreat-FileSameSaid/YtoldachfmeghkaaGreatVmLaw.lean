import Derived.Test.YtoldachfmeghkaaGreatVmLoop
import Derived.ChangeArms
import Derived.WideKeyArgs
import Derived.ChangeSame
import Derived.ChangeShapes
import Derived.OpenShut
import Derived.Handed
import Derived.JoinedOf
import Derived.Carry
set_option linter.unusedVariables false
namespace Go.Vm
inductive FitC : CK → V → Prop
  | int (k n) (h : (Lit.int k n).wf = true) : FitC (.int k) (.int k n)
  | bool (b) : FitC .bool (.bool b)
  | str (s) : FitC .str (.str s)
  | sl (sh) (rows : List (List V)) (hl : rows.length ≤ maxLen) (hr : ∀ r ∈ rows, r.length = sh.length) (h : ∀ (i : Nat) (r : List V) (j : Nat) (c : CK) (v : V), rows[i]? = some r → sh[j]? = some c → r[j]? = some v → FitC c v) : FitC (.sl sh) (.data sh rows)
def FitRow (sh : List CK) (r : List V) : Prop := r.length = sh.length ∧ ∀ (j : Nat) (c : CK) (v : V), sh[j]? = some c → r[j]? = some v → FitC c v
theorem FitC.fits {c v} (h : FitC c v) : Fits c v := by cases h <;> constructor
theorem FitRow.fits {sh r} (h : FitRow sh r) : FitsL sh r := ⟨h.1.symm, fun j c v h1 h2 => (h.2 j c v h1 h2).fits⟩
theorem FitRow.append {s1 s2 r1 r2} (h1 : FitRow s1 r1) (h2 : FitRow s2 r2) : FitRow (s1 ++ s2) (r1 ++ r2) := by
  refine ⟨by simp [h1.1, h2.1], fun j c v hc hv => ?_⟩
  rw [List.getElem?_append] at hc hv
  split at hc
  · rename_i hj
    rw [if_pos (by rw [h1.1]; exact hj)] at hv
    exact h1.2 j c v hc hv
  · rename_i hj
    rw [if_neg (by rw [h1.1]; exact hj), h1.1] at hv
    exact h2.2 _ c v hc hv
def RelL (W : World) (vs : List V) (cs : List Value) : Prop := vs.length = cs.length ∧ ∀ (i : Nat) (v : V) (y : Value), vs[i]? = some v → cs[i]? = some y → DRel W (fun b => b < W.heap.size) v y
theorem RelL.append {W v1 v2 c1 c2} (h1 : RelL W v1 c1) (h2 : RelL W v2 c2) : RelL W (v1 ++ v2) (c1 ++ c2) := by
  refine ⟨by simp [h1.1, h2.1], fun j c v hc hv => ?_⟩
  rw [List.getElem?_append] at hc hv
  split at hc
  · rename_i hj
    rw [if_pos (by rw [← h1.1]; exact hj)] at hv
    exact h1.2 j c v hc hv
  · rename_i hj
    rw [if_neg (by rw [← h1.1]; exact hj), ← h1.1] at hv
    exact h2.2 _ c v hc hv
def offsB (P : Program) : Nat → List Field → Nat → Bool
  | o, [], z => Nat.beq o z
  | o, f :: r, z => Nat.beq f.offset o && offsB P (o + P.cellsOf f.type) r z
def plainT (P : Program) : Nat → TypeId → Bool
  | 0, _ => false
  | d + 1, t => match P.underlying t with
    | some (.int _) => true
    | some .bool => true
    | some .string => true
    | some (.slice e) => plainT P d e && Nat.blt 0 (P.cellsOf e)
    | some (.array n e) => plainT P d e && Nat.beq (P.cellsOf t) (n * P.cellsOf e)
    | some (.struct fs) => fs.toList.all (fun f => plainT P d f.type) && offsB P 0 fs.toList (P.cellsOf t)
    | _ => false
section
variable {P : Program} {H : Type} {enc : TypeId × Value → H} {W : World} {spare : Nat → Bool} {held : Bool}
theorem cell_plain {a : Addr} {m j : Nat} {y : Value} (h : W.cell? ((a.add m).add j) = some y) : W.cell? ⟨a.block, a.off + (m + j), none⟩ = some y ∧ a.block < W.heap.size ∧ (m + j = 0 → a.spot = none) := by
  have hb : ∀ b : Addr, W.cell? b = some y → b.spot = none ∧ b.block < W.heap.size := by
    intro b hb
    unfold World.cell? at hb
    split at hb
    · rename_i c _ _ hh
      split at hb
      · cases hb
      · rename_i hs
        exact ⟨by simpa using hs, (Array.getElem?_eq_some_iff.1 hh).1⟩
    · cases hb
  obtain ⟨b, o, s⟩ := a
  unfold Addr.add at h
  by_cases hm : m = 0
  · subst hm
    simp only [if_true] at h
    by_cases hj : j = 0
    · subst hj
      simp only [if_true] at h
      obtain ⟨h1, h2⟩ := hb _ h
      simp only at h1
      subst h1
      exact ⟨h, h2, fun _ => rfl⟩
    · rw [if_neg hj] at h
      exact ⟨by simpa using h, (hb _ h).2, fun e => absurd e (by omega)⟩
  · rw [if_neg hm] at h
    by_cases hj : j = 0
    · subst hj
      simp only [if_true] at h
      exact ⟨by simpa using h, (hb _ h).2, fun e => absurd e (by omega)⟩
    · rw [if_neg hj] at h
      exact ⟨by simpa [Nat.add_assoc] using h, (hb _ h).2, fun e => absurd e (by omega)⟩
theorem rows_of {Q : Nat → List V → Prop} : ∀ (z : Nat), (∀ q, q < z → ∃ x, Q q x) → ∃ xs : List (List V), xs.length = z ∧ ∀ q x, xs[q]? = some x → Q q x
  | 0, _ => ⟨[], rfl, fun q x h => by simp at h⟩
  | z + 1, h => by
    obtain ⟨xs, hl, hx⟩ := rows_of z (fun q hq => h q (by omega))
    obtain ⟨x, hx0⟩ := h z (by omega)
    refine ⟨xs ++ [x], by simp [hl], fun q y hy => ?_⟩
    rw [List.getElem?_append] at hy
    split at hy
    · exact hx q y hy
    · rename_i hq
      have : q = z := by
        have := (List.getElem?_eq_some_iff.1 hy).1
        simp at this; omega
      subst this
      rw [hl] at hy
      simp at hy
      subst hy; exact hx0
theorem cells_get {a : Addr} {n : Nat} {cs : List Value} (h : W.cells? 0 a n = some cs) : cs.length = n ∧ ∀ j, j < n → W.cell? (a.add j) = cs[j]? := by
  unfold World.cells? at h
  rw [if_pos (Nat.zero_le _)] at h
  refine ⟨by simpa using mapM_some_length h, fun j hj => ?_⟩
  exact mapM_some_get h j j (by simp [hj])
theorem struct_rel {d : Nat} {fuel : Nat} (ih : ∀ t cs x, plainT P d t = true → DataW.trod enc P W 0 spare held fuel t cs = some x → ∃ vs, FitRow (cks P d t) vs ∧ RelL W vs cs) (cs : List Value) :
    ∀ (fs : List Field) (o : Nat) (xs : List (DataW H × List MemPlace)), fs.all (fun f => plainT P d f.type) = true → offsB P o fs cs.length = true → o ≤ cs.length → fs.mapM (fun f => DataW.trod enc P W 0 spare held fuel f.type ((cs.drop f.offset).take (P.cellsOf f.type))) = some xs →
    ∃ vs, FitRow (fs.flatMap fun f => cks P d f.type) vs ∧ RelL W vs (cs.drop o)
  | [], o, xs, hp, ho, hle, h => by
    simp only [offsB] at ho
    have := Nat.eq_of_beq_eq_true ho
    refine ⟨[], ⟨rfl, fun j c v h => by simp at h⟩, ?_⟩
    rw [this, List.drop_length]
    exact ⟨rfl, fun i v y h => by simp at h⟩
  | f :: r, o, xs, hp, ho, hle, h => by
    simp only [offsB, Bool.and_eq_true] at ho
    simp only [List.all_cons, Bool.and_eq_true] at hp
    have hoff := Nat.eq_of_beq_eq_true ho.1
    rw [List.mapM_cons] at h
    cases h1 : DataW.trod enc P W 0 spare held fuel f.type ((cs.drop f.offset).take (P.cellsOf f.type)) with
    | none => rw [h1] at h; simp at h
    | some x =>
      rw [h1] at h
      cases h2 : r.mapM (fun f => DataW.trod enc P W 0 spare held fuel f.type ((cs.drop f.offset).take (P.cellsOf f.type))) with
      | none => rw [h2] at h; simp at h
      | some ys =>
        obtain ⟨v1, f1, r1⟩ := ih f.type _ x hp.1 h1
        have hle2 : o + P.cellsOf f.type ≤ cs.length := by
          have : ∀ (l : List Field) (o z : Nat), offsB P o l z = true → o ≤ z := by
            intro l
            induction l with
            | nil => intro o z h; simp only [offsB] at h; have := Nat.eq_of_beq_eq_true h; omega
            | cons g l ih => intro o z h; simp only [offsB, Bool.and_eq_true] at h; have := ih _ _ h.2; omega
          exact this _ _ _ ho.2
        obtain ⟨v2, f2, r2⟩ := struct_rel ih cs r (o + P.cellsOf f.type) ys hp.2 ho.2 hle2 h2
        refine ⟨v1 ++ v2, by rw [List.flatMap_cons]; exact f1.append f2, ?_⟩
        have : cs.drop o = (cs.drop o).take (P.cellsOf f.type) ++ cs.drop (o + P.cellsOf f.type) := by
          rw [← List.drop_drop, List.take_append_drop]
        rw [this]
        rw [hoff] at r1
        exact r1.append r2
theorem array_rel {d fuel e : Nat} (ih : ∀ cs x, DataW.trod enc P W 0 spare held fuel e cs = some x → ∃ vs, FitRow (cks P d e) vs ∧ RelL W vs cs) (cs : List Value) :
    ∀ (m i : Nat) (xs : List (DataW H × List MemPlace)), cs.length = (i + m) * P.cellsOf e → (List.range' i m).mapM (fun i => DataW.trod enc P W 0 spare held fuel e ((cs.drop (i * P.cellsOf e)).take (P.cellsOf e))) = some xs →
    ∃ vs, FitRow (List.replicate m (cks P d e)).flatten vs ∧ RelL W vs (cs.drop (i * P.cellsOf e))
  | 0, i, xs, hl, h => by
    refine ⟨[], ⟨rfl, fun j c v h => by simp at h⟩, ?_⟩
    rw [Nat.add_zero] at hl
    rw [← hl, List.drop_length]
    exact ⟨rfl, fun i v y h => by simp at h⟩
  | m + 1, i, xs, hl, h => by
    rw [List.range'_succ, List.mapM_cons] at h
    cases h1 : DataW.trod enc P W 0 spare held fuel e ((cs.drop (i * P.cellsOf e)).take (P.cellsOf e)) with
    | none => rw [h1] at h; simp at h
    | some x =>
      rw [h1] at h
      cases h2 : (List.range' (i + 1) m).mapM (fun i => DataW.trod enc P W 0 spare held fuel e ((cs.drop (i * P.cellsOf e)).take (P.cellsOf e))) with
      | none => rw [h2] at h; simp at h
      | some ys =>
        obtain ⟨v1, f1, r1⟩ := ih _ x h1
        obtain ⟨v2, f2, r2⟩ := array_rel ih cs m (i + 1) ys (by rw [hl]; congr 1; omega) h2
        refine ⟨v1 ++ v2, by rw [List.replicate_succ, List.flatten_cons]; exact f1.append f2, ?_⟩
        have : cs.drop (i * P.cellsOf e) = (cs.drop (i * P.cellsOf e)).take (P.cellsOf e) ++ cs.drop ((i + 1) * P.cellsOf e) := by
          rw [Nat.succ_mul, ← List.drop_drop, List.take_append_drop]
        rw [this]
        exact r1.append r2
theorem trod_rel : ∀ (fuel d : Nat) (t : TypeId) (cs : List Value) (x : DataW H × List MemPlace), plainT P d t = true → DataW.trod enc P W 0 spare held fuel t cs = some x → ∃ vs, FitRow (cks P d t) vs ∧ RelL W vs cs
  | 0, d, t, cs, x, hp, h => by simp [DataW.trod] at h
  | fuel + 1, 0, t, cs, x, hp, h => by simp [plainT] at hp
  | fuel + 1, d + 1, t, cs, x, hp, h => by
    have one : ∀ (c : CK) (v : V) (y : Value), FitC c v → DRel W (fun b => b < W.heap.size) v y → cks P (d + 1) t = [c] → cs = [y] → ∃ vs, FitRow (cks P (d + 1) t) vs ∧ RelL W vs cs := by
      intro c v y hf hd hc hy
      rw [hc, hy]
      refine ⟨[v], ⟨rfl, fun j c' v' h1 h2 => ?_⟩, rfl, fun i v' y' h1 h2 => ?_⟩
      · cases j with
        | zero => simp at h1 h2; subst h1; subst h2; exact hf
        | succ j => simp at h1
      · cases i with
        | zero => simp at h1 h2; subst h1; subst h2; exact hd
        | succ i => simp at h1
    unfold plainT at hp
    unfold DataW.trod at h
    cases hu : P.underlying t with
    | none => rw [hu] at hp; cases hp
    | some u =>
      rw [hu] at hp h
      cases u with
      | int k =>
        have hk : cks P (d + 1) t = [.int k] := by simp [cks, hu]
        cases cs with
        | nil => simp at h
        | cons y r =>
          cases r with
          | cons => simp at h
          | nil =>
            cases y <;> try (simp at h; done)
            rename_i k' n
            simp only at h
            split at h
            · rename_i hc
              obtain ⟨rfl, hw⟩ := hc
              exact one _ _ _ (.int _ n hw) (.int _ n) hk rfl
            · cases h
      | bool =>
        have hk : cks P (d + 1) t = [.bool] := by simp [cks, hu]
        cases cs with
        | nil => simp at h
        | cons y r =>
          cases r with
          | cons => simp at h
          | nil =>
            cases y <;> try (simp at h; done)
            exact one _ _ _ (.bool _) (.bool _) hk rfl
      | string =>
        have hk : cks P (d + 1) t = [.str] := by simp [cks, hu]
        cases cs with
        | nil => simp at h
        | cons y r =>
          cases r with
          | cons => simp at h
          | nil =>
            cases y <;> try (simp at h; done)
            exact one _ _ _ (.str _) (.str _) hk rfl
      | slice e =>
        have hk : cks P (d + 1) t = [.sl (cks P d e)] := by simp [cks, hu]
        rw [Bool.and_eq_true] at hp
        have hz : 0 < P.cellsOf e := by simpa [Nat.blt_eq] using hp.2
        cases cs with
        | nil => simp at h
        | cons y r =>
          cases r with
          | cons => simp at h
          | nil =>
            cases y <;> try (simp at h; done)
            rename_i a len cap
            cases a with
            | none =>
              cases len with
              | zero =>
                cases cap with
                | zero => exact one _ (.data (cks P d e) []) _ (.sl _ [] (Nat.zero_le _) (fun r hr => by cases hr) (fun i r j c v h => by simp at h)) (.none _ _ _) hk rfl
                | succ => simp at h
              | succ => simp at h
            | some a =>
              simp only at h
              split at h
              · rename_i hc
                obtain ⟨_, hlc, hcm⟩ := hc
                obtain ⟨elems, he, _⟩ := Option.bind_eq_some_iff.1 h
                have hel : ∀ i, i < len → ∃ csi y, W.cells? 0 (a.add (i * P.cellsOf e)) (P.cellsOf e) = some csi ∧ DataW.trod enc P W 0 spare held fuel e csi = some y := by
                  intro i hi
                  have h1 := mapM_some_get he i i (by simp [hi])
                  have hl := mapM_some_length he
                  rw [List.length_range] at hl
                  rw [List.getElem?_eq_getElem (by omega)] at h1
                  obtain ⟨csi, h2, h3⟩ := Option.bind_eq_some_iff.1 h1
                  exact ⟨csi, _, h2, h3⟩
                obtain ⟨rows, hrl, hrows⟩ := rows_of (Q := fun i r => FitRow (cks P d e) r ∧ r.length = P.cellsOf e ∧ ∀ j v, r[j]? = some v → ∃ y, W.cell? ((a.add (i * P.cellsOf e)).add j) = some y ∧ DRel W (fun b => b < W.heap.size) v y) len (fun i hi => by
                  obtain ⟨csi, y, h1, h2⟩ := hel i hi
                  obtain ⟨vs, f1, r1⟩ := trod_rel fuel d e csi y hp.1 h2
                  obtain ⟨hcl, hcg⟩ := cells_get h1
                  refine ⟨vs, f1, by rw [r1.1, hcl], fun j v hv => ?_⟩
                  have hj : j < csi.length := by have := (List.getElem?_eq_some_iff.1 hv).1; have := r1.1; omega
                  refine ⟨csi[j], ?_, r1.2 j v _ hv (List.getElem?_eq_getElem hj)⟩
                  rw [hcg j (by omega), List.getElem?_eq_getElem hj])
                subst hrl
                have hfit : ∀ r ∈ rows, FitRow (cks P d e) r := fun r hr => by
                  obtain ⟨i, hi⟩ := List.mem_iff_getElem?.1 hr
                  exact (hrows i r hi).1
                have hsl : ∀ r ∈ rows, P.cellsOf e = (cks P d e).length := fun r hr => by
                  obtain ⟨i, hi⟩ := List.mem_iff_getElem?.1 hr
                  rw [← (hrows i r hi).1.1, (hrows i r hi).2.1]
                have hfc : FitC (.sl (cks P d e)) (.data (cks P d e) rows) := .sl _ rows (Nat.le_trans hlc hcm) (fun r hr => (hfit r hr).1) (fun i r j c v h1 h2 h3 => (hfit r (List.mem_of_getElem? h1)).2 j c v h2 h3)
                refine one _ (.data (cks P d e) rows) _ hfc ?_ hk rfl
                by_cases h0 : rows = []
                · subst h0; exact .none _ _ _
                · have hlt : 0 < rows.length := List.length_pos_iff.2 h0
                  have hr0 := List.getElem?_eq_getElem (l := rows) (i := 0) hlt
                  have hz0 := hsl _ (List.mem_of_getElem? hr0)
                  obtain ⟨_, hrl0, hcell0⟩ := hrows 0 _ hr0
                  have hv0 := List.getElem?_eq_getElem (l := rows[0]) (i := 0) (by omega)
                  obtain ⟨y0, hy0, _⟩ := hcell0 0 _ hv0
                  obtain ⟨_, hblk, hspot⟩ := cell_plain hy0
                  have hspot := hspot (by simp)
                  obtain ⟨ab, ao, asp⟩ := a
                  simp only at hspot hblk
                  subst hspot
                  have hcell : ∀ (i : Nat) (r : List V) (j : Nat) (v : V), rows[i]? = some r → r[j]? = some v → W.cell? ⟨ab, ao + (i * (cks P d e).length + j), none⟩ = some ((W.cell? ⟨ab, ao + (i * (cks P d e).length + j), none⟩).getD undef) ∧ DRel W (fun b => b < W.heap.size) v ((W.cell? ⟨ab, ao + (i * (cks P d e).length + j), none⟩).getD undef) := by
                    intro i r j v h1 h2
                    obtain ⟨y, hy, hd⟩ := (hrows i r h1).2.2 j v h2
                    have hp := (cell_plain hy).1
                    simp only at hp
                    rw [hz0] at hp
                    rw [hp]
                    exact ⟨rfl, hd⟩
                  exact .data (cks P d e) rows ab ao cap (fun q => (W.cell? ⟨ab, ao + q, none⟩).getD undef) hblk hlc (fun r hr => (hfit r hr).fits) (fun i r j v h1 h2 => (hcell i r j v h1 h2).1) (fun i r j v h1 h2 => (hcell i r j v h1 h2).2)
              · cases h
      | array n e =>
        have hk : cks P (d + 1) t = (List.replicate n (cks P d e)).flatten := by simp [cks, hu]
        rw [Bool.and_eq_true] at hp
        have hn := Nat.eq_of_beq_eq_true hp.2
        simp only at h
        split at h
        · rename_i hl
          obtain ⟨xs, hxs, _⟩ := Option.map_eq_some_iff.1 h
          rw [hk]
          have := array_rel (P := P) (W := W) (d := d) (e := e) (fun cs x h => trod_rel fuel d e cs x hp.1 h) cs n 0 xs (by rw [hl, hn]; simp) (by rw [← List.range_eq_range']; exact hxs)
          simpa using this
        · cases h
      | struct fs =>
        have hk : cks P (d + 1) t = fs.toList.flatMap fun f => cks P d f.type := by simp [cks, hu]
        rw [Bool.and_eq_true] at hp
        simp only at h
        split at h
        · rename_i hl
          obtain ⟨xs, hxs, _⟩ := Option.map_eq_some_iff.1 h
          rw [hk]
          have := struct_rel (P := P) (W := W) (d := d) (fun t cs x h1 h2 => trod_rel fuel d t cs x h1 h2) cs fs.toList 0 xs hp.1 (by rw [hl]; exact hp.2) (Nat.zero_le _) hxs
          simpa using this
        · cases h
      | _ => simp at hp
def ArgOK (P : Program) (t : TypeId) (v : V) : Prop := (aggT P t = true ∧ ∃ vs, v = .agg vs ∧ FitRow (ck P t) vs) ∨ (aggT P t = false ∧ FitRow (ck P t) [v])
theorem arg_rel {t : TypeId} {x : Value} {b0 : Nat} {r0 : Reach} {d : DataW H} {ps : List MemPlace} (hp : plainT P 12 t = true) (hv : Value.okWide P W r0 b0 t x) (h : DataW.Trod enc P W 0 spare held t x d ps) : ∃ v, ArgOK P t v ∧ DRel W (fun b => b < W.heap.size) v x := by
  obtain ⟨fuel, h⟩ := h
  obtain ⟨vs, hf, hr⟩ := trod_rel fuel 12 t _ _ hp h
  unfold Value.okWide at hv
  cases hag : aggT P t with
  | true =>
    have hx : ∃ cs, x = .agg cs := by
      unfold aggT at hag
      split at hag
      · rename_i hu; rw [hu] at hv; obtain ⟨cs, rfl, _⟩ := hv; exact ⟨cs, rfl⟩
      · rename_i hu; rw [hu] at hv; obtain ⟨cs, rfl, _⟩ := hv; exact ⟨cs, rfl⟩
      · cases hag
    obtain ⟨cs, rfl⟩ := hx
    refine ⟨.agg vs, .inl ⟨hag, vs, rfl, hf⟩, .agg vs cs (by simpa [Value.cells] using hr.1) fun i v x h1 h2 => hr.2 i v x h1 (by simpa [Value.cells] using h2)⟩
  | false =>
    have hx : x.cells = #[x] := by
      by_cases ha : ∃ cs, x = .agg cs
      · obtain ⟨cs, rfl⟩ := ha
        exfalso
        unfold aggT at hag
        unfold plainT at hp
        cases hu : P.underlying t with
        | none => rw [hu] at hp; cases hp
        | some u =>
          rw [hu] at hag hv hp
          cases u <;> first | (simp at hag; done) | (simp at hp; done) | (simp [Cell.okWide, Cell.ok, hu] at hv; done)
      · cases x <;> first | rfl | exact absurd ⟨_, rfl⟩ ha
    rw [hx] at hr
    have hl : vs.length = 1 := by simpa using hr.1
    match vs, hl with
    | [v], _ => exact ⟨v, .inr ⟨hag, hf⟩, hr.2 0 v x rfl (by simp)⟩
theorem args_rel' {b0 : Nat} {r0 : Reach} : ∀ (ts : List TypeId) (xs : List Value) (ds : List (DataW H)) (ps : List MemPlace), (∀ t ∈ ts, plainT P 12 t = true) → (∀ (j : Nat) t v, ts[j]? = some t → xs[j]? = some v → Value.okWide P W r0 b0 t v) → DataW.TrodAll enc P W 0 spare held ts xs ds ps →
    ∃ Vs : List V, Vs.length = xs.length ∧ xs.length = ts.length ∧ (∀ (j : Nat) t v, ts[j]? = some t → Vs[j]? = some v → ArgOK P t v) ∧ ∀ (j : Nat) v x, Vs[j]? = some v → xs[j]? = some x → DRel W (fun b => b < W.heap.size) v x
  | [], [], [], ps, _, _, _ => ⟨[], rfl, rfl, fun j t v h => by simp at h, fun j v x h => by simp at h⟩
  | t :: ts, x :: xs, d :: ds, ps, hp, hv, h => by
    obtain ⟨p, q, h1, h2, _⟩ := h
    obtain ⟨v, a1, a2⟩ := arg_rel (hp t (by simp)) (hv 0 t x rfl rfl) h1
    obtain ⟨Vs, b1, b2, b3, b4⟩ := args_rel' ts xs ds q (fun t ht => hp t (List.mem_cons_of_mem _ ht)) (fun j t v g1 g2 => hv (j + 1) t v (by simpa using g1) (by simpa using g2)) h2
    refine ⟨v :: Vs, by simp [b1], by simp [b2], fun j t v g1 g2 => ?_, fun j v x g1 g2 => ?_⟩
    · cases j with
      | zero => simp at g1 g2; subst g1; subst g2; exact a1
      | succ j => exact b3 j t v (by simpa using g1) (by simpa using g2)
    · cases j with
      | zero => simp at g1 g2; subst g1; subst g2; exact a2
      | succ j => exact b4 j v x (by simpa using g1) (by simpa using g2)
  | [], _ :: _, _, _, _, _, h => h.elim
  | [], [], _ :: _, _, _, _, h => h.elim
  | _ :: _, [], _, _, _, _, h => h.elim
  | _ :: _, _ :: _, [], _, _, _, h => h.elim
theorem trodAll_stays (hl : laidOutB P = true) {W' : World} {sp' : Nat → Bool} : ∀ (ts : List TypeId) (xs : List Value) (ds : List (DataW H)) (ps : List MemPlace), (∀ t ∈ ts, P.readableRec t = true ∧ t < P.types.size) → DataW.TrodAll enc P W 0 (fun _ => true) true ts xs ds ps → (∀ p ∈ ps, W.sameAt W' p) → (∀ p ∈ ps, sp' p.block = true) → DataW.TrodAll enc P W' 0 sp' true ts xs ds ps
  | [], [], [], ps, _, h, _, _ => h
  | t :: ts, x :: xs, d :: ds, ps, hr, h, h1, h2 => by
    obtain ⟨p, q, g1, g2, rfl⟩ := h
    exact ⟨p, q, WideElems.Trod_stays hl (hr t (by simp)).1 (hr t (by simp)).2 g1 (fun y hy => h1 y (List.mem_append_left _ hy)) (fun y hy => h2 y (List.mem_append_left _ hy)),
      trodAll_stays hl ts xs ds q (fun t ht => hr t (List.mem_cons_of_mem _ ht)) g2 (fun y hy => h1 y (List.mem_append_right _ hy)) (fun y hy => h2 y (List.mem_append_right _ hy)), rfl⟩
  | [], _ :: _, _, _, _, h, _, _ => h.elim
  | [], [], _ :: _, _, _, h, _, _ => h.elim
  | _ :: _, [], _, _, _, h, _, _ => h.elim
  | _ :: _, _ :: _, [], _, _, h, _, _ => h.elim
theorem law_contract {f : Nat} {fn : Func} {s : ChangeSpec} {bt : TypeId} {b0 : Nat} (hl : laidOutB P = true)
    (hplain : fn.params.toList.all (fun t => plainT P 12 t && P.readableRec t && decide (t < P.types.size)) = true) (hres : fn.resultTypes = #[bt]) (hb : P.underlying bt = some .bool) (hvars : s.vars = [])
    (hs : ∀ ds : List (DataW H), ds.length = fn.params.size → (s.fn H ds).results = [.lit (.bool true)] ∧ (s.fn H ds).args = ds ∧ (s.fn H ds).vars = [])
    (hF : ∀ Vs : List V, Vs.length = fn.params.size → (∀ (j : Nat) t v, fn.params[j]? = some t → Vs[j]? = some v → ArgOK P t v) → FunOK P f Vs (.bool true))
    {args : Array Value} {ds gs : List (DataW H)} {before : List MemPlace} (hval : ∀ (j : Nat) t v, fn.params[j]? = some t → args[j]? = some v → Value.okWide P W .any b0 t v)
    (hW : DataW.Whole enc P fn.params.toList s.vars false W args.toList ds gs before) :
    Calls P f args W fun e W' => ∃ v, e = .returned v ∧ s.post enc P fn false true false false W args v W' := by
  have hW' := hW
  obtain ⟨p, q, hA, hV, rfl, hfz, hnd⟩ := hW
  rw [hvars] at hV
  obtain ⟨rfl, rfl⟩ := ChangeShapes.trodVars_none hV
  have hpl : ∀ t ∈ fn.params.toList, plainT P 12 t = true ∧ P.readableRec t = true ∧ t < P.types.size := by
    intro t ht
    have := List.all_eq_true.1 hplain t ht
    simp only [Bool.and_eq_true, decide_eq_true_eq] at this
    exact ⟨this.1.1, this.1.2, this.2⟩
  obtain ⟨Vs, h1, h2, h3, h4⟩ := args_rel' (b0 := b0) (r0 := .any) fn.params.toList args.toList ds p (fun t ht => (hpl t ht).1) (fun j t v g1 g2 => hval j t v (by simpa using g1) (by simpa using g2)) hA
  have hlen : Vs.length = args.size := by simpa using h1
  have hlp : args.size = fn.params.size := by simpa using h2
  have hds : ds.length = fn.params.size := by
    have : ∀ (ts : List TypeId) (xs : List Value) (ds : List (DataW H)) (ps : List MemPlace), DataW.TrodAll enc P W 0 (fun _ => true) true ts xs ds ps → ds.length = ts.length := by
      intro ts
      induction ts with
      | nil => intro xs ds ps h; cases xs <;> cases ds <;> first | rfl | exact h.elim
      | cons t ts ih =>
        intro xs ds ps h
        cases xs <;> cases ds <;> try exact h.elim
        obtain ⟨_, _, _, g, _⟩ := h
        simp [ih _ _ _ g]
    simpa using this _ _ _ _ hA
  have hF' := (hF Vs (by omega) (fun j t v g1 g2 => h3 j t v (by simpa using g1) g2)).2 W (fun b => b < W.heap.size) args (fun _ h => h) hlen (fun i v x g1 g2 => h4 i v x g1 (by simpa using g2))
  refine hF'.mono fun e W' he => ?_
  obtain ⟨x, rfl, hB, hd⟩ := he
  cases hd
  refine ⟨.bool true, rfl, ds, [], p ++ [], [], p, [], hW', ?_, ?_, ?_, ?_, fun h => by cases h⟩
  · simp only [List.append_nil]
    rw [(hs ds hds).1, hres]
    exact trodAll_cons_mk (RowKit.shut_bool hb true) ChangeShapes.trodAll_mk0
  · simp only [List.append_nil]
    rw [(hs ds hds).2.1]
    refine trodAll_stays hl _ _ _ _ (fun t ht => (hpl t ht).2) hA (fun y hy => hB.same (hW'.lt y (by simpa using hy))) fun y hy => ?_
    simpa using hW'.lt y (by simpa using hy)
  · simp only [List.append_nil]
    rw [(hs ds hds).2.2, hvars]
    rfl
  · exact hB.frame _
end
end Go.Vm
