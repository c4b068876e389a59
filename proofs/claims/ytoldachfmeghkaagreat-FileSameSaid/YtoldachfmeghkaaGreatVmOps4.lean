import Derived.Test.YtoldachfmeghkaaGreatVmOps3
import Derived.Laws.MakeOwn
namespace Go.Vm
def wrCells (cs : Array Value) : Nat → List Value → Array Value
  | _, [] => cs
  | o, v :: r => wrCells (cs.setIfInBounds o v) (o + 1) r
theorem wrCells_size : ∀ (vs : List Value) (cs : Array Value) (o : Nat), (wrCells cs o vs).size = cs.size
  | [], _, _ => rfl
  | v :: r, cs, o => by rw [wrCells, wrCells_size r]; simp
theorem wrCells_get : ∀ (vs : List Value) (cs : Array Value) (o i : Nat), o + vs.length ≤ cs.size → (wrCells cs o vs)[i]? = if o ≤ i ∧ i < o + vs.length then vs[i - o]? else cs[i]?
  | [], cs, o, i, _ => by rw [wrCells, if_neg (fun h => by simp at h; omega)]
  | v :: r, cs, o, i, h => by
    simp only [List.length_cons] at h ⊢
    rw [wrCells, wrCells_get r (cs.setIfInBounds o v) (o + 1) i (by simp; omega)]
    by_cases e : i = o
    · subst e
      rw [if_neg (by omega), if_pos (by omega)]
      have hlt : i < cs.size := by omega
      simp [hlt]
    · by_cases hr : o + 1 ≤ i ∧ i < o + 1 + r.length
      · rw [if_pos hr, if_pos (by omega)]
        have : i - o = (i - (o + 1)) + 1 := by omega
        rw [this, List.getElem?_cons_succ]
      · rw [if_neg hr, if_neg (by omega), Array.getElem?_setIfInBounds_ne (fun h => e h.symm)]
theorem setCells_heap (b : Nat) {T fz} : ∀ (vs : List Value) (o : Nat) (w : World) (cs : Array Value), w.heap[b]? = some (.cells cs T fz) → (w.setCells b o vs).heap[b]? = some (.cells (wrCells cs o vs) T fz)
  | [], _, _, _, h => h
  | v :: r, o, w, cs, h => by
    rw [World.setCells, wrCells]
    refine setCells_heap b r (o + 1) _ _ ?_
    simp [World.setCell, Array.getElem?_modify, h]
theorem setCells_other (b : Nat) : ∀ (vs : List Value) (o : Nat) (w : World) (q : Nat), q ≠ b → (w.setCells b o vs).heap[q]? = w.heap[q]?
  | [], _, _, _, _ => rfl
  | v :: r, o, w, q, h => by rw [World.setCells, setCells_other b r (o + 1) _ q h, Below.heap_setCell _ _ _ _ h]
theorem setCells_rest (b : Nat) : ∀ (vs : List Value) (o : Nat) (w : World), (w.setCells b o vs).heap.size = w.heap.size ∧ (w.setCells b o vs).os = w.os ∧ (w.setCells b o vs).tape = w.tape ∧ (w.setCells b o vs).output = w.output
  | [], _, _ => ⟨rfl, rfl, rfl, rfl⟩
  | v :: r, o, w => by
    have := setCells_rest b r (o + 1) (w.setCell ⟨b, o, none⟩ v)
    rw [World.setCells]
    exact ⟨this.1.trans (by simp [World.setCell]), this.2.1, this.2.2.1, this.2.2.2⟩
theorem setCells_drawn (b : Nat) : ∀ (vs : List Value) (o : Nat) (w : World), (w.setCells b o vs).drawn = w.drawn
  | [], _, _ => rfl
  | v :: r, o, w => by rw [World.setCells, setCells_drawn b r (o + 1) _]; rfl
theorem Below.setCells {B b : Nat} (hb : B ≤ b) (vs : List Value) (o : Nat) (w : World) : Below B w (w.setCells b o vs) := by
  have h := setCells_rest b vs o w
  exact ⟨h.2.1, h.2.2.1, h.2.2.2, Nat.le_of_eq (setCells_drawn b vs o w).symm, by omega, fun k hk => setCells_other b vs o w k (by omega)⟩
def OpOK (P : Program) (n0 : Nat) (A0 L : Nat → Prop) (w : World) (t : List V) (h : Heap) (a : Array Value) (id : Nat) (v : V) (e : Eff) (fz : List Nat) (run : Result Value) : Prop :=
  ∃ x w' E', run = .ok x w' ∧ Below n0 w w' ∧ SRel n0 A0 (fun k => L k ∨ k = id) w' t (e.run id (h.freeze fz)) a E' ∧ VRel w' (e.run id (h.freeze fz)) (fun k => L k ∨ k = id) E' (Ab n0 A0 w' (e.run id (h.freeze fz)) E') v x
theorem VRel.weaken {w h L L' E A v x} (hL : ∀ k, L k → L' k) (hv : VRel w h L E A v x) : VRel w h L' E A v x :=
  hv.mono (fun _ hb => ⟨hb, rfl⟩) hL (fun k b' _ hb => ⟨b', hb, Nat.le_refl _, rfl, rfl, rfl⟩)
theorem SRel.weaken {n0 A0 L L' w t h a E} (hL : ∀ k, L k → L' k) (S : SRel n0 A0 L w t h a E) : SRel n0 A0 L' w t h a E :=
  S.trans (Nat.le_refl _) hL (fun _ hb => ⟨hb, rfl⟩) (fun k b' _ hb => ⟨b', hb, Nat.le_refl _, rfl, rfl, rfl⟩)
    (fun k b' hb => (S.hb k b' hb).mono (fun _ hb => ⟨hb, rfl⟩) hL (fun k b' _ hb => ⟨b', hb, Nat.le_refl _, rfl, rfl, rfl⟩) rfl rfl (fun _ _ => rfl)) (fun k b hb => hL k (S.hl k b hb)) S.own S.inj
theorem OpOK.quiet {P : Program} {n0 A0 L w t h a E} (S : SRel n0 A0 L w t h a E) {id : Nat} {v : V} {e : Eff} {fz : List Nat} {run : Result Value}
    (hx : ∃ x, run = .ok x w ∧ VRel w h L E (Ab n0 A0 w h E) v x ∧ e = .none ∧ fz = []) : OpOK P n0 A0 L w t h a id v e fz run := by
  obtain ⟨x, hr, hv, rfl, rfl⟩ := hx
  exact ⟨x, w, E, hr, Below.refl _ _, (S.freeze []).weaken (fun _ h => .inl h), (hv.freeze []).weaken (fun _ h => .inl h)⟩
section
variable {P : Program}
theorem zeroCell_rel {w A} (c : CK) (x : Value) {h L E} : VRel w h L E A (zeroCell c x) x := by
  unfold zeroCell
  split
  · rename_i k k' n
    cases hk : CK.beq (.int k) (.int k') with
    | false => exact .pure (.undef _)
    | true => have := CK.beq_eq hk; cases this; exact .pure (.int _ _)
  · exact .pure (.bool _)
  · exact .pure (.str _)
  · exact .nils _
  · exact .pure .mnil
  · exact .pure .nilp
  · exact .pure (.undef _)
theorem zipZero_rel {w h L E A} : ∀ (cs : List CK) (xs : List Value) (i : Nat) (v : V) (x : Value), (zipZero cs xs)[i]? = some v → xs[i]? = some x → VRel w h L E A v x
  | c :: l, y :: r, 0, v, x, h1, h2 => by
    simp only [zipZero, List.getElem?_cons_zero, Option.some.injEq] at h1 h2
    subst h1; subst h2; exact zeroCell_rel c y
  | c :: l, y :: r, i + 1, v, x, h1, h2 => zipZero_rel l r i v x (by simpa [zipZero] using h1) (by simpa using h2)
  | [], _, i, v, x, h1, _ => by simp [zipZero] at h1
  | _ :: _, [], i, v, x, h1, _ => by simp [zipZero] at h1
theorem zeroOK_rel {t : TypeId} (h0 : zeroOK P t = true) : okT P t = true ∧ ∃ z, (∀ w, (zeroValue t).run P w = .ok z w) ∧ (P.info? t).bind (·.zero) = some z ∧ z.cells.size = szOf P t ∧ (zeroV P t).length = szOf P t ∧ (ck P t).length = szOf P t ∧
    (∀ w h L E A (i : Nat) (v : V) (x : Value), (zeroV P t)[i]? = some v → z.cells[i]? = some x → VRel w h L E A v x) := by
  unfold zeroOK at h0
  split at h0
  · rename_i z hz
    simp only [Bool.and_eq_true] at h0
    obtain ⟨⟨⟨h1, h2⟩, h3⟩, h4⟩ := h0
    obtain ⟨i, hi, hiz⟩ := Option.bind_eq_some_iff.1 hz
    have hzz : zeroV P t = zipZero (ck P t) z.cells.toList := by simp [zeroV, hz]
    refine ⟨h1, z, fun w => by simp [zeroValue, typeInfo, hi, hiz], by first | exact hz | rfl, Nat.eq_of_beq_eq_true h2, Nat.eq_of_beq_eq_true h3, Nat.eq_of_beq_eq_true h4, fun w h L E A i v x h1 h2 => ?_⟩
    rw [hzz] at h1; exact zipZero_rel _ _ i v x h1 (by simpa using h2)
  · cases h0
theorem one_cell {w h L E A v x} (h1 : V.one v = true) (hv : VRel w h L E A v x) : x.oneCell' = true := by
  cases hv with
  | pure hd => cases hd <;> first | rfl | (simp [V.one] at h1)
  | agg => simp [V.one] at h1
  | tup => simp [V.one] at h1
  | nils => rfl
  | vs k x hL hx hh => obtain ⟨a, l, c, rfl⟩ := hx; rfl
  | sub k lo hi x hL hx hh => obtain ⟨a, l, c, rfl⟩ := hx; rfl
  | ptr k i j x hL hx hh => obtain ⟨a, rfl⟩ := hx; rfl
  | fn => rfl
  | mp k x hL hx hh => obtain ⟨a, rfl⟩ := hx; rfl
  | gd => simp [V.one] at h1
theorem whole_cells {w h L E A v x} (h1 : V.whole v = true) (hv : VRel w h L E A v x) :
    (V.cells v).length = x.cells.size ∧ ∀ (i : Nat) (u : V) (y : Value), (V.cells v)[i]? = some u → x.cells[i]? = some y → VRel w h L E A u y := by
  by_cases ha : ∃ cs, v = .agg cs
  · obtain ⟨cs, rfl⟩ := ha
    obtain ⟨axs, rfl, hl, hc⟩ := aggR hv
    exact ⟨hl, hc⟩
  · have ho : V.one v = true := by
      cases v <;> first | exact h1 | (exact absurd ⟨_, rfl⟩ ha)
    have hx := one_cell ho hv
    have e1 : V.cells v = [v] := by cases v <;> first | rfl | (exact absurd ⟨_, rfl⟩ ha)
    have e2 : x.cells = #[x] := by cases x <;> first | rfl | (simp [Value.oneCell'] at hx)
    rw [e1, e2]
    refine ⟨rfl, fun i u y h1 h2 => ?_⟩
    cases i with
    | zero => simp only [List.getElem?_cons_zero, Option.some.injEq] at h1; simp at h2; subst h1; subst h2; exact hv
    | succ i => simp at h1
theorem cks_noMark (P : Program) : ∀ (d : Nat) (t : TypeId), CK.mark ∉ cks P d t
  | 0, t, h => by simp [cks] at h
  | d + 1, t, h => by
    simp only [cks] at h
    split at h
    · simp at h
    · simp at h
    · simp at h
    · simp at h
    · simp only [List.mem_flatten] at h
      obtain ⟨l, hl, hm⟩ := h
      rw [(List.mem_replicate.1 hl).2] at hm
      exact cks_noMark P d _ hm
    · simp at h
    · simp only [List.mem_flatMap] at h
      obtain ⟨f, _, hm⟩ := h
      exact cks_noMark P d _ hm
    · simp at h
theorem ck_noMark (P : Program) (t : TypeId) : isMapS (ck P t) = false := by
  have h := cks_noMark P 12 t
  unfold ck
  generalize cks P 12 t = l at h
  cases l with
  | nil => rfl
  | cons c r => cases c <;> first | rfl | exact absurd (List.mem_cons_self ..) h
theorem newVar_ok {n0 A0 L w t h a E} (S : SRel n0 A0 L w t h a E) {id : Nat} (hid : ¬ L id) {cs : List V} {sh : List CK} (xs : Array Value) (T : TypeId) (hns : isMapS sh = false) (hsh : sh.length = cs.length) (hl : cs.length = xs.size)
    (hc : ∀ (i : Nat) (u : V) (y : Value), cs[i]? = some u → xs[i]? = some y → VRel w h L E (Ab n0 A0 w h E) u y) {run : Result Value}
    (hrun : run = .ok (.pointer (some ⟨w.heap.size, 0, none⟩)) { w with heap := w.heap.push (.cells xs T) }) :
    OpOK P n0 A0 L w t h a id (.ptr id 0 0) (.new ⟨false, sh, [cs], false⟩) [] run := by
  have hB : Below w.heap.size w { w with heap := w.heap.push (.cells xs T) } := by
    refine ⟨rfl, rfl, rfl, Nat.le_refl _, by simp, fun k hk => ?_⟩
    show (w.heap.push _)[k]? = _
    rw [Array.getElem?_push, if_neg (by omega)]
  have S' := (S.freeze []).new (blk := ⟨false, sh, [cs], false⟩) (hd := undef) (some w.heap.size) hid hB (fun r hr => by cases hr; exact ⟨rfl, by simp⟩) (by simp [hsh]) (fun h => by cases h)
    (.inr ⟨w.heap.size, xs, T, rfl, by simp, fun i row j v g1 g2 => by
      have hi : i = 0 := by have := (List.getElem?_eq_some_iff.1 g1).1; simpa using this
      subst hi
      simp only [List.getElem?_cons_zero, Option.some.injEq] at g1
      subst g1
      have hj : j < xs.size := by have := (List.getElem?_eq_some_iff.1 g2).1; omega
      refine ⟨xs[j], by simp [Array.getElem?_eq_getElem hj], ?_⟩
      simp only [Bool.false_eq_true, if_false]
      exact (hc j v _ g2 (Array.getElem?_eq_getElem hj)).freeze [], fun h => by cases h⟩) (by simp [Blk.isMap, hns])
  refine ⟨_, _, _, hrun, Below.mono hB S.nh, S', .ptr id 0 0 _ (.inr rfl) ⟨_, rfl⟩ fun b hb => ?_⟩
  simp only [Eff.run, Heap.get_ins, if_true, Option.some.injEq] at hb
  subst hb
  exact ⟨by simp, w.heap.size, by simp [Emb.set], by simp⟩
theorem opBox_ok {n0 A0 L w t h a E} (S : SRel n0 A0 L w t h a E) {id : Nat} (hid : ¬ L id) {ty : TypeId} {vx : V} {xx : Value} (hx : VRel w h L E (Ab n0 A0 w h E) vx xx)
    (hc : (V.whole vx && Nat.beq (V.cells vx).length (szOf P ty) && Nat.beq (ck P ty).length (szOf P ty)) = true) :
    OpOK P n0 A0 L w t h a id (.ptr id 0 0) (.new ⟨false, ck P ty, [V.cells vx], false⟩) [] ((Instr.box ty xx).run P w) := by
  simp only [Bool.and_eq_true] at hc
  obtain ⟨⟨h1, h2⟩, h3⟩ := hc
  have h2 := Nat.eq_of_beq_eq_true h2
  have h3 := Nat.eq_of_beq_eq_true h3
  obtain ⟨hl, hcc⟩ := whole_cells h1 hx
  exact newVar_ok S hid xx.cells ty (ck_noMark P ty) (by omega) hl hcc (by simp [Instr.box, newVar, newRow])
theorem opAlloc_ok {n0 A0 L w t h a E} (S : SRel n0 A0 L w t h a E) {id : Nat} (hid : ¬ L id) {ty : TypeId} (hc : zeroOK P ty = true) :
    OpOK P n0 A0 L w t h a id (.ptr id 0 0) (.new ⟨false, ck P ty, [zeroV P ty], false⟩) [] ((Instr.alloc ty true (.tuple #[])).run P w) := by
  obtain ⟨_, z, hz, hzi, h1, h2, h3, hzr⟩ := zeroOK_rel hc
  exact newVar_ok S hid z.cells ty (ck_noMark P ty) (by omega) (by omega) (hzr _ _ _ _ _) (by simp [Instr.alloc, hz, newVar, newRow])
theorem newVec_ok {n0 A0 L w t h a E} (S : SRel n0 A0 L w t h a E) {id : Nat} (hid : ¬ L id) {rows : List (List V)} {sh : List CK} {fz : List Nat} (xs : Array Value) (T : TypeId) (cap : Nat)
    (hfit : ∀ r ∈ rows, FitsL sh r) (hcap : rows.length ≤ cap) (hsz : cap * sh.length ≤ xs.size)
    (hc : ∀ (i : Nat) (row : List V) (j : Nat) (v : V), rows[i]? = some row → row[j]? = some v → ∃ x, xs[i * sh.length + j]? = some x ∧ DRel w (Ab n0 A0 w (h.freeze fz) E) v x) {run : Result Value} {w' : World} (hB : Below w.heap.size w w')
    (hw' : w'.heap[w.heap.size]? = some (.cells xs T (0, 0)))
    (hrun : run = .ok (.slice (some ⟨w.heap.size, 0, none⟩) rows.length cap) w') :
    OpOK P n0 A0 L w t h a id (.vs id) (.new ⟨true, sh, rows, false⟩) fz run := by
  have hlt : w.heap.size < w'.heap.size := (Array.getElem?_eq_some_iff.1 hw').1
  have S' := (S.freeze fz).new (blk := ⟨true, sh, rows, false⟩) (hd := .slice (some ⟨w.heap.size, 0, none⟩) rows.length cap) (some w.heap.size) hid hB (fun r hr => by cases hr; exact ⟨rfl, hlt⟩) (fun r hr => (hfit r hr).1.symm) (fun _ => hfit)
    (.inr ⟨w.heap.size, xs, T, rfl, hw', fun i row j v g1 g2 => by
      obtain ⟨x, hx, hd⟩ := hc i row j v g1 g2
      exact ⟨x, hx, by simp only [if_true]; exact hd⟩, fun _ => ⟨cap, rfl, hcap, hsz⟩⟩)
  refine ⟨_, _, _, hrun, Below.mono hB S.nh, S', .vs id _ (.inr rfl) ⟨_, _, _, rfl⟩ fun b hb => by simp [Emb.set]⟩
theorem foldl_wr (off : Nat) : ∀ (vs : List Value) (n : Nat) (cs : Array Value), (vs.zipIdx n).foldl (fun cs (c, j) => cs.setIfInBounds (off + j) c) cs = wrCells cs (off + n) vs
  | [], _, _ => rfl
  | v :: r, n, cs => by
    rw [List.zipIdx_cons, List.foldl_cons, foldl_wr off r (n + 1)]
    rfl
theorem fill_cons (place : Nat → Option (Nat × Nat)) (cells : Array Value) (i : Nat) (v : Value) (rest : List (Nat × Value)) {off size : Nat} (hp : place i = some (off, size)) (hs : v.cells.size = size) (hle : off + size ≤ cells.size) :
    Instr.fill place cells ((i, v) :: rest) = Instr.fill place (wrCells cells off v.cells.toList) rest := by
  simp only [Instr.fill, hp]
  have h1 : ¬ (v.cells.size ≠ size) := by simp [hs]
  have h2 : ¬ (off + v.cells.size > cells.size) := by omega
  rw [if_neg (by simp [hs]; omega)]
  congr 1
  rw [← Array.foldl_toList, Array.toList_zipIdx]
  exact foldl_wr off v.cells.toList 0 cells
theorem fill_rows (z : Nat) : ∀ (vs : List (Nat × Value)) (k : Nat) (cells : Array Value), (∀ (i : Nat) (p : Nat × Value), vs[i]? = some p → p.1 = k + i ∧ p.2.cells.size = z) → (k + vs.length) * z ≤ cells.size →
    ∃ cells', Instr.fill (fun i => some (i * z, z)) cells vs = some cells' ∧ cells'.size = cells.size ∧ (∀ (i : Nat) (p : Nat × Value) (j : Nat) (x : Value), vs[i]? = some p → p.2.cells[j]? = some x → cells'[(k + i) * z + j]? = some x) ∧ (∀ q, q < k * z → cells'[q]? = cells[q]?)
  | [], k, cells, _, _ => ⟨cells, rfl, rfl, fun i p j x h => by simp at h, fun _ _ => rfl⟩
  | (n, v) :: r, k, cells, hv, hle => by
    obtain ⟨e1, e2⟩ := hv 0 (n, v) rfl
    simp only [Nat.add_zero] at e1
    replace e2 : v.cells.size = z := e2
    subst e1
    have hle2 : n * z + z ≤ cells.size := by
      refine Nat.le_trans ?_ hle
      rw [← Nat.succ_mul]
      exact Nat.mul_le_mul_right _ (by simp)
    obtain ⟨cells', f1, f2, f3, f4⟩ := fill_rows z r (n + 1) (wrCells cells (n * z) v.cells.toList) (fun i p hp => by
      have := hv (i + 1) p (by simpa using hp)
      exact ⟨by omega, this.2⟩) (by rw [wrCells_size]; rw [show n + 1 + r.length = n + ((n, v) :: r).length by simp; omega]; exact hle)
    refine ⟨cells', ?_, by rw [f2, wrCells_size], fun i p j x h1 h2 => ?_, fun q hq => ?_⟩
    · rw [fill_cons _ _ n v r rfl e2 hle2]; exact f1
    · cases i with
      | zero =>
        simp only [List.getElem?_cons_zero, Option.some.injEq] at h1
        subst h1
        replace h2 : v.cells[j]? = some x := h2
        have hj : j < z := by have := (Array.getElem?_eq_some_iff.1 h2).1; omega
        rw [Nat.add_zero, f4 _ (by rw [Nat.succ_mul]; omega), wrCells_get _ _ _ _ (by simp; omega), if_pos (by simp; omega)]
        rw [show n * z + j - n * z = j by omega]
        simpa using h2
      | succ i =>
        have := f3 i p j x (by simpa using h1) h2
        rwa [show n + 1 + i = n + (i + 1) by omega] at this
    · rw [f4 q (by rw [Nat.succ_mul]; omega), wrCells_get _ _ _ _ (by simp; omega), if_neg (by omega)]
theorem keysFrom_get : ∀ (k : Nat) (l : List (Nat × V)) (i : Nat) (p : Nat × V), keysFrom k l = true → l[i]? = some p → p.1 = k + i
  | k, q :: r, 0, p, h, h1 => by
    simp only [List.getElem?_cons_zero, Option.some.injEq] at h1
    subst h1
    simp only [keysFrom, Bool.and_eq_true] at h
    exact Nat.eq_of_beq_eq_true h.1
  | k, q :: r, i + 1, p, h, h1 => by
    simp only [keysFrom, Bool.and_eq_true] at h
    have := keysFrom_get (k + 1) r i p h.2 (by simpa using h1)
    omega
  | k, [], i, p, _, h1 => by simp at h1
theorem slT_iff {t : TypeId} (h : slT P t = true) : ∃ e, P.underlying t = some (.slice e) ∧ elemT P t = e ∧ okT P e = true := by
  unfold slT at h
  split at h
  · rename_i e hu
    exact ⟨e, hu, by simp [elemT, hu], h⟩
  · cases h
theorem opBuildSlice_ok {n0 A0 L w t h a E} (S : SRel n0 A0 L w t h a E) {id : Nat} (hid : ¬ L id) {ty : TypeId} {len : Nat} {parts : List (Nat × V)} {rparts : Array (Nat × Value)} (hl : parts.length = rparts.size)
    (hp : ∀ (i : Nat) (p : Nat × V) (q : Nat × Value), parts[i]? = some p → rparts[i]? = some q → p.1 = q.1 ∧ VRel w h L E (Ab n0 A0 w h E) p.2 q.2) {v e fz} (h1 : opBuildSlice P ty len parts h id = ⟨true, v, e, fz⟩) :
    OpOK P n0 A0 L w t h a id v e fz ((Instr.buildSlice ty len rparts).run P w) := by
  simp only [opBuildSlice, OR.mk.injEq, Bool.and_eq_true] at h1
  obtain ⟨⟨⟨⟨⟨⟨⟨⟨hsl, hz⟩, h0⟩, hlen⟩, hkeys⟩, hwhole⟩, hholds⟩, hmax⟩, rfl, rfl, rfl⟩ := h1
  obtain ⟨el, hu, he, hok⟩ := slT_iff hsl
  rw [he] at hz h0 hholds hmax ⊢
  obtain ⟨_, z, hzr, hzi, hz1, hz2, hz3, hzz⟩ := zeroOK_rel hz
  have h0 : 0 < szOf P el := by simpa [Nat.blt_eq] using h0
  have hlen := Nat.eq_of_beq_eq_true hlen
  have hmax : len * szOf P el ≤ 16777216 := by simpa using hmax
  have hwh : ∀ p ∈ parts, V.whole p.2 = true := List.all_eq_true.1 hwhole
  have hho : ∀ r ∈ parts.map (fun p => V.pureL h (V.cells p.2)), FitsL (ck P el) r := fun r hr => holdsL_fits (List.all_eq_true.1 hholds r hr)
  have hcs : ∀ (i : Nat) (p : Nat × V) (q : Nat × Value), parts[i]? = some p → rparts[i]? = some q → (V.cells p.2).length = q.2.cells.size ∧ ∀ (j : Nat) (u : V) (y : Value), (V.cells p.2)[j]? = some u → q.2.cells[j]? = some y → VRel w h L E (Ab n0 A0 w h E) u y :=
    fun i p q hp1 hq1 => whole_cells (hwh p (List.mem_of_getElem? hp1)) (hp i p q hp1 hq1).2
  have hrow : ∀ (i : Nat) (p : Nat × V), parts[i]? = some p → (V.cells p.2).length = szOf P el := by
    intro i p hp1
    have := (hho _ (List.mem_map.2 ⟨p, List.mem_of_getElem? hp1, rfl⟩)).1
    rw [pureL_map, List.length_map] at this
    omega
  have hget : ∀ (i : Nat) (q : Nat × Value), rparts[i]? = some q → ∃ p, parts[i]? = some p := by
    intro i q hq
    have hi : i < parts.length := by have := (Array.getElem?_eq_some_iff.1 hq).1; omega
    exact ⟨parts[i], List.getElem?_eq_getElem hi⟩
  obtain ⟨cells', f1, f2, f3, _⟩ := fill_rows (szOf P el) rparts.toList 0 ((Array.range (len * szOf P el)).map (z.cells[· % z.cells.size]!)) (fun i q hq => by
    have hq : rparts[i]? = some q := by simpa using hq
    obtain ⟨p, hp1⟩ := hget i q hq
    refine ⟨?_, ?_⟩
    · rw [← (hp i p q hp1 hq).1]; exact keysFrom_get 0 parts i p hkeys hp1
    · rw [← (hcs i p q hp1 hq).1]; exact hrow i p hp1) (by simp; rw [← hl, hlen]; exact Nat.le_refl _)
  have hrl : (parts.map (fun p => V.pureL h (V.cells p.2))).length = len := by simp [hlen]
  have hB : Below w.heap.size w { w with heap := w.heap.push (.cells cells' el) } := by
    refine ⟨rfl, rfl, rfl, Nat.le_refl _, by simp, fun k hk => ?_⟩
    show (w.heap.push _)[k]? = _
    rw [Array.getElem?_push, if_neg (by omega)]
  refine newVec_ok S hid cells' el len hho (by omega) (by rw [f2, hz3]; simp) (fun i row j v g1 g2 => ?_) hB (by simp) ?_
  · rw [List.getElem?_map] at g1
    obtain ⟨p, hp1, rfl⟩ := Option.map_eq_some_iff.1 g1
    rw [pureL_map, List.getElem?_map] at g2
    obtain ⟨u, hu1, rfl⟩ := Option.map_eq_some_iff.1 g2
    have hi : i < rparts.size := by have := (List.getElem?_eq_some_iff.1 hp1).1; omega
    have hq1 : rparts[i]? = some rparts[i] := Array.getElem?_eq_getElem hi
    obtain ⟨c1, c2⟩ := hcs i p _ hp1 hq1
    have hj : j < rparts[i].2.cells.size := by have := (List.getElem?_eq_some_iff.1 hu1).1; omega
    refine ⟨rparts[i].2.cells[j], ?_, ?_⟩
    · have := f3 i rparts[i] j _ (by simp [hq1]) (Array.getElem?_eq_getElem hj)
      rw [hz3]; simpa using this
    · have hv := c2 j u _ hu1 (Array.getElem?_eq_getElem hj)
      have hmem : p.2 ∈ parts.map (·.2) := List.mem_map.2 ⟨p, List.mem_of_getElem? hp1, rfl⟩
      refine hv.toPure S (K := (· ∈ deepRefs h (parts.map (·.2)))) (fun _ hb => hb.freeze _) (fun k b r hk hb hm => ⟨.inr (S.own k b r hb hm).1, (S.own k b r hb hm).2, fun k' bl hk' hf hm' => by
        obtain ⟨b0, h0, _, _, _, h3, _⟩ := freeze_get hk'
        have e := S.inj k' b0 k b r h0 hb hm' hm
        subst e
        exact (h3 hf).2 hk⟩) (fun k hk => refsIn_deep hmem k ?_)
      by_cases ha : ∃ cs, p.2 = .agg cs
      · obtain ⟨cs, hcs⟩ := ha
        rw [hcs] at hu1 ⊢
        rw [V.refs]; exact mem_refsL (List.mem_of_getElem? hu1) hk
      · have : V.cells p.2 = [p.2] := by
          generalize p.2 = q at ha ⊢
          cases q <;> first | rfl | (exact absurd ⟨_, rfl⟩ ha)
        rw [this] at hu1
        have : u = p.2 := by
          have := List.mem_of_getElem? hu1
          simpa using this
        rw [← this]; exact hk
  · rw [hrl]
    simp only [Instr.buildSlice, Sem.run_bind, run_underlying hu, Result.andThen_ok, run_sizeOf hok]
    have hm' : ¬ (len * szOf P el > 2 ^ 24) := by omega
    rw [if_neg hm']
    by_cases hz0 : len * szOf P el = 0
    · have hl0 : len = 0 := by
        rcases Nat.mul_eq_zero.1 hz0 with h | h
        · exact h
        · omega
      subst hl0
      have hrp : rparts = #[] := by apply Array.eq_empty_of_size_eq_zero; omega
      subst hrp
      simp only [Instr.fill] at f1
      simp at f1
      subst f1
      have r0 : ∀ f : Nat → Value, (Array.range 0).map f = #[] := fun f => Array.eq_empty_of_size_eq_zero (by simp)
      simp [Instr.fill, newRow, r0]
    · simp only [if_neg hz0, Sem.run_bind, hzr, Result.andThen_ok, Sem.run_pure, f1]
      simp [newRow]
theorem zeroCell_drel {w A} (c : CK) (x : Value) : DRel w A (V.pure [] (zeroCell c x)) x := by
  unfold zeroCell
  split
  · rename_i k k' n
    cases hk : CK.beq (.int k) (.int k') with
    | false => exact .undef _
    | true => have := CK.beq_eq hk; cases this; exact .int _ _
  · exact .bool _
  · exact .str _
  · exact .none _ _ _
  · exact .mnil
  · exact .nilp
  · exact .undef _
theorem zipZero_drel {w A} : ∀ (cs : List CK) (xs : List Value) (i : Nat) (v : V) (x : Value), (V.pureL [] (zipZero cs xs))[i]? = some v → xs[i]? = some x → DRel w A v x
  | c :: l, y :: r, 0, v, x, h1, h2 => by
    simp only [zipZero, V.pureL, List.getElem?_cons_zero, Option.some.injEq] at h1 h2
    subst h1; subst h2; exact zeroCell_drel c y
  | c :: l, y :: r, i + 1, v, x, h1, h2 => zipZero_drel l r i v x (by simpa [zipZero, V.pureL] using h1) (by simpa using h2)
  | [], _, i, v, x, h1, _ => by simp [zipZero, V.pureL] at h1
  | _ :: _, [], i, v, x, h1, _ => by simp [zipZero, V.pureL] at h1
theorem opMakeSlice_ok {n0 A0 L w t h a E} (S : SRel n0 A0 L w t h a E) {id : Nat} (hid : ¬ L id) {ty : TypeId} {vl vc : V} {xl xc : Value} (hl : VRel w h L E (Ab n0 A0 w h E) vl xl) (hc : VRel w h L E (Ab n0 A0 w h E) vc xc) {v e fz}
    (h1 : opMakeSlice P ty vl vc id = ⟨true, v, e, fz⟩) : OpOK P n0 A0 L w t h a id v e fz ((Instr.makeSlice ty xl xc).run P w) := by
  unfold opMakeSlice at h1
  split at h1
  · rename_i kl l kc c
    cases hl with | pure hl => cases hl with | int =>
    cases hc with | pure hc => cases hc with | int =>
    simp only [OR.mk.injEq, Bool.and_eq_true, decide_eq_true_eq] at h1
    obtain ⟨⟨⟨⟨⟨l0, lc⟩, hb⟩, hc63⟩, ⟨⟨hsl, hz⟩, h0⟩, hho⟩, rfl, rfl, rfl⟩ := h1
    obtain ⟨el, hu, he, hok⟩ := slT_iff hsl
    rw [he] at hz h0 hho hb ⊢
    obtain ⟨_, z, hzr, hzi, hz1, hz2, hz3, hzz⟩ := zeroOK_rel hz
    have h0 : 0 < szOf P el := by simpa [Nat.blt_eq] using h0
    obtain ⟨i, hi, hiz⟩ := Option.bind_eq_some_iff.1 hzi
    have hisz : szOf P el = i.size := by simp [szOf, hi]
    have hiby : bytesOfT P el = i.bytes := by simp [bytesOfT, hi]
    rw [hiby] at hb
    have hr := run_make (P := P) w ty el i z hu hi hiz kl kc l c l0 lc (by rw [Int.mul_comm]; omega) (by omega)
    have hfit := holdsL_fits hho
    have hB : Below w.heap.size w (w.alloc (.cells (madeCells z.cells (c.toNat * i.size)) el)) := (Below.refl _ _).alloc (Nat.le_refl _) _
    have hlen : (List.replicate l.toNat (zeroRow P el)).length = l.toNat := by simp
    refine newVec_ok S hid (madeCells z.cells (c.toNat * i.size)) el c.toNat (fun r hr => ?_) (by rw [hlen]; omega) (by rw [hz3, size_madeCells, hisz]; exact Nat.le_refl _) (fun q row j v g1 g2 => ?_) hB (by show (w.heap.push _)[w.heap.size]? = _; simp) (by rw [hlen]; exact hr)
    · rw [(List.mem_replicate.1 hr).2]; exact hfit
    · have hq : q < l.toNat := by have := (List.getElem?_eq_some_iff.1 g1).1; simpa using this
      have hrow : row = zeroRow P el := by
        have := List.mem_of_getElem? g1
        exact (List.mem_replicate.1 this).2
      subst hrow
      have hj : j < szOf P el := by
        have h2 := (List.getElem?_eq_some_iff.1 g2).1
        have h3 := hfit.1
        omega
      have hp : q * szOf P el + j < c.toNat * i.size := by
        rw [← hisz]
        have h2 : q * szOf P el + szOf P el ≤ c.toNat * szOf P el := by
          rw [← Nat.succ_mul]; exact Nat.mul_le_mul_right _ (by omega)
        omega
      have hmod : (q * szOf P el + j) % z.cells.size = j := by
        rw [hz1, Nat.mul_comm, Nat.mul_add_mod]; exact Nat.mod_eq_of_lt hj
      have hjz : j < z.cells.size := by omega
      refine ⟨z.cells[j], ?_, ?_⟩
      · rw [hz3]
        simp only [madeCells, Array.getElem?_map, Array.getElem?_range, if_pos hp, Option.map_some, hmod]
        simp [hjz]
      · have hzv : zeroV P el = zipZero (ck P el) z.cells.toList := by simp [zeroV, hzi]
        refine zipZero_drel (ck P el) z.cells.toList j v _ ?_ (by simp [Array.getElem?_eq_getElem hjz])
        rw [← hzv]; exact g2
  · simp [OR.fail] at h1
theorem run_storeAt {t : TypeId} (hok : okT P t = true) (w : World) (r o : Nat) (x : Value) (hs : x.cells.size = szOf P t) (hc : ∀ j, j < x.cells.size → (w.cell? ⟨r, o + j, none⟩).isSome = true ∧ w.frozen? ⟨r, o + j, none⟩ = false)
    (h1 : ∀ u ∈ x.cells.toList, u.oneCell' = true) : (Instr.storeAt t (.pointer (some ⟨r, o, none⟩)) x).run P w = .ok () (w.setCells r o x.cells.toList) := by
  have := run_storeCells_cells (P := P) r o x.cells.toList 0 w (fun j hj => by simpa using (hc j (by simpa using hj)).1) (fun j hj => by simpa using (hc j (by simpa using hj)).2) h1
  simp only [Nat.add_zero] at this
  simp only [Instr.storeAt, Instr.sureAddr, Sem.run_bind, Sem.run_pure, Result.andThen_ok, storeVar, run_sizeOf hok, hs]
  simp [this]
theorem all_one {cs : List V} (h : cs.all V.one = true) {i : Nat} {u : V} (hu : cs[i]? = some u) : V.one u = true := List.all_eq_true.1 h u (List.mem_of_getElem? hu)
theorem nilsTy_rel {w h L E A} {ty : TypeId} {v : V} {x : Value} (hv : VRel w h L E A v x) : VRel w h L E A (nilsTy P ty v) x := by
  unfold nilsTy
  split
  · cases hv with
    | pure hd => cases hd
    | nils sh =>
      cases slT P ty with
      | true => exact .nils _
      | false => exact .nils _
  · exact hv
theorem opStore_ok {n0 A0 L w t h a E} (S : SRel n0 A0 L w t h a E) {id : Nat} {ty : TypeId} {va vx : V} {xa xx : Value} (ha : VRel w h L E (Ab n0 A0 w h E) va xa) (hx : VRel w h L E (Ab n0 A0 w h E) vx xx) {v e fz}
    (h1 : opStore P ty h va vx = ⟨true, v, e, fz⟩) : ∃ w' E', (Instr.storeAt ty xa xx).run P w = .ok () w' ∧ Below n0 w w' ∧ SRel n0 A0 (fun k => L k ∨ k = id) w' t (e.run id (h.freeze fz)) a E' ∧ v = .undef := by
  unfold opStore at h1
  split at h1
  · rename_i k i j
    split at h1
    · rename_i b hb
      cases hc : okT P ty && Nat.ble (j + szOf P ty) b.sh.length && Nat.beq (V.cells vx).length (szOf P ty) && !b.fr && (V.cells vx).all V.one && !b.isMap with
      | false => simp only [hc, cond_false, OR.fail, OR.mk.injEq] at h1; exact absurd h1.1 (by simp)
      | true =>
        simp only [hc, cond_true] at h1
        simp only [Bool.and_eq_true, Nat.ble_eq, Bool.not_eq_true'] at hc
        obtain ⟨⟨⟨⟨⟨hok, hle⟩, hlen⟩, hfr⟩, hone⟩, hnm⟩ := hc
        have hlen := Nat.eq_of_beq_eq_true hlen
        have hwhole : V.whole vx = true := by
          by_cases hag : ∃ cs, vx = .agg cs
          · obtain ⟨cs, rfl⟩ := hag; rfl
          · have e1 : V.cells vx = [vx] := by cases vx <;> first | rfl | (exact absurd ⟨_, rfl⟩ hag)
            rw [e1] at hone
            have : V.one vx = true := by simpa using hone
            cases vx <;> first | exact this | rfl
        obtain ⟨hcl, hcr⟩ := whole_cells hwhole hx
        cases ha with
        | pure hd => cases hd
        | ptr k i j x hL hxp hh =>
        obtain ⟨hi, r, hm, rfl⟩ := hh b hb
        have hmem := (S.hb k b hb).memV hnm
        obtain ⟨hblen, hfit, _⟩ := S.hb k b hb
        rcases hmem with ⟨hm', _⟩ | ⟨r', cs, T, hm', hw, hcell, _⟩
        · rw [hm] at hm'; cases hm'
        rw [hm] at hm'; cases hm'
        have hrow : b.rows[i]? = some (b.rows.getD i []) := getD_of hi
        have hrl := hblen _ (List.mem_of_getElem? hrow)
        have hcb : ∀ q, q < b.sh.length → ∃ x, cs[i * b.sh.length + q]? = some x := by
          intro q hq
          obtain ⟨x, hx, _⟩ := hcell i _ q _ hrow (getD_of (d := V.undef) (by rw [hrl]; exact hq))
          exact ⟨x, hx⟩
        have hcs : i * b.sh.length + j + xx.cells.size ≤ cs.size := by
          by_cases h0 : xx.cells.size = 0
          · by_cases hj : j = 0
            · subst hj
              by_cases hs : b.sh.length = 0
              · rw [hs]; omega
              · obtain ⟨x, hx⟩ := hcb 0 (by omega)
                have := (Array.getElem?_eq_some_iff.1 hx).1
                omega
            · obtain ⟨x, hx⟩ := hcb (j - 1) (by omega)
              have := (Array.getElem?_eq_some_iff.1 hx).1
              omega
          · obtain ⟨x, hx⟩ := hcb (j + xx.cells.size - 1) (by omega)
            have := (Array.getElem?_eq_some_iff.1 hx).1
            omega
        have hrun := run_storeAt (P := P) hok w r (i * b.sh.length + j) xx (by omega) (fun q hq => by
          have hlt : i * b.sh.length + j + q < cs.size := by omega
          refine ⟨by simp [World.cell?, hw, Array.getElem?_eq_getElem hlt], by simp [World.frozen?, hw]⟩) (fun u hu => by
          obtain ⟨q, hq⟩ := List.mem_iff_getElem?.1 hu
          have hq' : xx.cells[q]? = some u := by simpa using hq
          have hql : q < (V.cells vx).length := by have := (Array.getElem?_eq_some_iff.1 hq').1; omega
          exact one_cell (all_one hone (getD_of (d := V.undef) hql)) (hcr q _ u (getD_of hql) hq'))
        have hrows : ∀ (news : List V), news.length = szOf P ty → ∀ r ∈ b.rows.set i (setCells (b.rows.getD i []) j news), r.length = b.sh.length := by
          intro news hn r hr
          rcases List.mem_or_eq_of_mem_set hr with h | h
          · exact hblen r h
          · rw [h, setCells_length]; exact hrl
        have hw'h := setCells_heap r xx.cells.toList (i * b.sh.length + j) w cs hw
        have hrest := setCells_rest r xx.cells.toList (i * b.sh.length + j) w
        have hfrz : ∀ fz, k ∉ fz → (h.freeze fz).get k = some b := by
          intro fz hk
          rw [Heap.get_freeze, hb]
          have : fz.any (Nat.beq k) = false := by
            rw [List.any_eq_false]
            intro q hq hqk
            exact hk (Nat.eq_of_beq_eq_true hqk ▸ hq)
          simp [this]
        have key : ∀ (fz : List Nat) (news : List V), news.length = szOf P ty → k ∉ fz → (b.vec = true → FitsL ((b.sh.drop j).take (szOf P ty)) news) →
            (∀ (q : Nat) (u : V) (y : Value), news[q]? = some u → xx.cells[q]? = some y → (if b.vec then DRel w (Ab n0 A0 w (h.freeze fz) E) u y else VRel w (h.freeze fz) L E (Ab n0 A0 w (h.freeze fz) E) u y)) →
            SRel n0 A0 L (w.setCells r (i * b.sh.length + j) xx.cells.toList) t ((h.freeze fz).ins k { b with rows := b.rows.set i (setCells (b.rows.getD i []) j news) }) a E := by
          intro fz news hn hkf hnf hnr
          have Sf := S.freeze fz
          have hbf := hfrz fz hkf
          have hmemf := (Sf.hb k b hbf).memV hnm
          have hcellf : ∀ (i' : Nat) (row : List V) (j' : Nat) (v : V), b.rows[i']? = some row → row[j']? = some v → ∃ x, cs[i' * b.sh.length + j']? = some x ∧ (if b.vec then DRel w (Ab n0 A0 w (h.freeze fz) E) v x else VRel w (h.freeze fz) L E (Ab n0 A0 w (h.freeze fz) E) v x) := by
            rcases hmemf with ⟨hm', _⟩ | ⟨r', cs', T', hm', hw', hcell', _⟩
            · rw [hm] at hm'; cases hm'
            · rw [hm] at hm'; cases hm'
              rw [hw] at hw'; cases hw'
              exact hcell'
          refine Sf.store (w' := w.setCells r (i * b.sh.length + j) xx.cells.toList) hbf hfr hm hw hw'h hrest.1 (wrCells_size _ _ _) (fun q hq => setCells_other r _ _ w q hq) (hrows news hn) (fun hv row hr => ?_) (by simp) (fun i' row j' v g1 g2 => ?_)
          · rcases List.mem_or_eq_of_mem_set hr with h | h
            · exact hfit hv row h
            · rw [h]
              have hf := hfit hv _ (List.mem_of_getElem? hrow)
              refine ⟨by rw [setCells_length]; exact hf.1, fun q c u h1 h2 => ?_⟩
              rw [setCells_get _ _ _ _ (by omega)] at h2
              split at h2
              · rename_i hq
                refine (hnf hv).2 (q - j) c u ?_ h2
                rw [List.getElem?_take, if_pos (by omega), List.getElem?_drop]
                rw [show j + (q - j) = q by omega]; exact h1
              · exact hf.2 q c u h1 h2
          · rw [List.getElem?_set] at g1
            split at g1
            · rename_i hii
              subst hii
              simp only [Option.some.injEq] at g1
              subst g1
              rw [setCells_get _ _ _ _ (by omega)] at g2
              rw [wrCells_get _ _ _ _ (by simp; omega)]
              split at g2
              · rename_i hq
                rw [if_pos (by simp; omega)]
                have e1 : i * b.sh.length + j' - (i * b.sh.length + j) = j' - j := by omega
                rw [e1]
                have hlt : j' - j < xx.cells.size := by omega
                refine ⟨xx.cells[j' - j], by simp [hlt], hnr (j' - j) v _ g2 (Array.getElem?_eq_getElem hlt)⟩
              · rename_i hq
                rw [if_neg (by simp; omega)]
                exact hcellf i _ j' v hrow g2
            · rename_i hii
              rw [wrCells_get _ _ _ _ (by simp; omega)]
              have hi' : i' < b.rows.length := (List.getElem?_eq_some_iff.1 g1).1
              have hj' : j' < b.sh.length := by
                have h2 := (List.getElem?_eq_some_iff.1 g2).1
                rwa [hblen row (List.mem_of_getElem? g1)] at h2
              have hne : ¬ (i * b.sh.length + j ≤ i' * b.sh.length + j' ∧ i' * b.sh.length + j' < i * b.sh.length + j + xx.cells.toList.length) := by
                intro hh
                have hx2 : j + xx.cells.toList.length ≤ b.sh.length := by simp; omega
                rcases Nat.lt_or_gt_of_ne hii with hlt | hlt
                · have : (i + 1) * b.sh.length ≤ i' * b.sh.length := Nat.mul_le_mul_right _ hlt
                  rw [Nat.succ_mul] at this
                  omega
                · have : (i' + 1) * b.sh.length ≤ i * b.sh.length := Nat.mul_le_mul_right _ hlt
                  rw [Nat.succ_mul] at this
                  omega
              rw [if_neg hne]
              exact hcellf i' row j' v g1 g2
        have hBel : Below n0 w (w.setCells r (i * b.sh.length + j) xx.cells.toList) := Below.setCells (S.own k b r hb hm).1 _ _ _
        cases hvec : b.vec with
        | true =>
          simp only [hvec, cond_true, OR.mk.injEq, Bool.and_eq_true, Bool.not_eq_true'] at h1
          obtain ⟨⟨hho, hkf⟩, rfl, rfl, rfl⟩ := h1
          have hk' : k ∉ deepRefs h (V.cells vx) := by
            intro hk
            rw [List.any_eq_false] at hkf
            exact hkf k hk (by simp)
          have K := key (deepRefs h (V.cells vx)) (V.pureL h (V.cells vx)) (by rw [pureL_map]; simp; omega) hk' (fun _ => holdsL_fits hho) (fun q u y h1 h2 => by
            rw [if_pos hvec]
            rw [pureL_map, List.getElem?_map] at h1
            obtain ⟨u0, hu0, rfl⟩ := Option.map_eq_some_iff.1 h1
            exact toPure_fz S (List.mem_of_getElem? hu0) (hcr q u0 y hu0 h2))
          simp only [hvec] at K
          exact ⟨_, E, hrun, hBel, K.weaken (fun _ h => .inl h), rfl⟩
        | false =>
          simp only [hvec, cond_false, OR.mk.injEq] at h1
          obtain ⟨_, rfl, rfl, rfl⟩ := h1
          have K := key [] (V.cells vx) hlen (by simp) (fun h => by rw [hvec] at h; cases h) (fun q u y h1 h2 => by
            rw [if_neg (by simp [hvec])]
            exact (hcr q u y h1 h2).freeze [])
          simp only [hvec] at K
          exact ⟨_, E, hrun, hBel, K.weaken (fun _ h => .inl h), rfl⟩
    · simp [OR.fail] at h1
  · simp [OR.fail] at h1
end
end Go.Vm
