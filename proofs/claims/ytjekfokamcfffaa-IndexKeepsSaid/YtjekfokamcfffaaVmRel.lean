/- THE MACHINE OF VALUES: how its values stand to the model's, and what keeps that. -/
import Derived.Test.YtjekfokamcfffaaVmCore
import Derived.Below
namespace Go.Vm
open Go.RowKit (Below)

inductive Fits : CK → V → Prop
  | int (k n) : Fits (.int k) (.int k n)
  | bool (b) : Fits .bool (.bool b)
  | str (s) : Fits .str (.str s)
  | sl (sh rows) : Fits (.sl sh) (.data sh rows)
  | other : Fits .other .undef

def FitsL (sh : List CK) (row : List V) : Prop := sh.length = row.length ∧ ∀ (j : Nat) (c : CK) (v : V), sh[j]? = some c → row[j]? = some v → Fits c v

/-- Values without addresses, in memory of which the blocks in A may be looked at. -/
inductive DRel (w : World) (A : Nat → Prop) : V → Value → Prop
  | undef (x) : DRel w A .undef x
  | int (k n) : DRel w A (.int k n) (.int k n)
  | bool (b) : DRel w A (.bool b) (.bool b)
  | str (s) : DRel w A (.str s) (.string s)
  | nilp : DRel w A .nilp (.pointer none)
  | agg (cs : List V) (xs : Array Value) (h : cs.length = xs.size) (hc : ∀ (i : Nat) (v : V) (x : Value), cs[i]? = some v → xs[i]? = some x → DRel w A v x) : DRel w A (.agg cs) (.agg xs)
  | tup (cs : List V) (xs : Array Value) (h : cs.length = xs.size) (hc : ∀ (i : Nat) (v : V) (x : Value), cs[i]? = some v → xs[i]? = some x → DRel w A v x) : DRel w A (.tup cs) (.tuple xs)
  | none (sh) (a : Option Addr) (cap : Nat) : DRel w A (.data sh []) (.slice a 0 cap)
  | data (sh) (rows : List (List V)) (b off cap : Nat) (f : Nat → Value) (hA : A b) (hcap : rows.length ≤ cap) (hf : ∀ r ∈ rows, FitsL sh r)
      (hm : ∀ (i : Nat) (r : List V) (j : Nat) (v : V), rows[i]? = some r → r[j]? = some v → w.cell? ⟨b, off + (i * sh.length + j), none⟩ = some (f (i * sh.length + j)))
      (hc : ∀ (i : Nat) (r : List V) (j : Nat) (v : V), rows[i]? = some r → r[j]? = some v → DRel w A v (f (i * sh.length + j))) : DRel w A (.data sh rows) (.slice (some ⟨b, off, none⟩) rows.length cap)
  | pdat (sh) (row : List V) (j b off : Nat) (f : Nat → Value) (hA : A b) (hf : FitsL sh row)
      (hm : ∀ (j : Nat) (v : V), row[j]? = some v → w.cell? ⟨b, off + j, none⟩ = some (f j)) (hc : ∀ (j : Nat) (v : V), row[j]? = some v → DRel w A v (f j)) : DRel w A (.pdat sh row j) (.pointer (some ⟨b, off + j, none⟩))
  | fn (g) (caps : List V) (xs : Array Value) (h : caps.length = xs.size) (hc : ∀ (i : Nat) (v : V) (x : Value), caps[i]? = some v → xs[i]? = some x → DRel w A v x) : DRel w A (.fn g caps) (.func (.func g) #[] xs)

theorem DRel.mono {w w' : World} {A A' : Nat → Prop} (hA : ∀ b, A b → A' b ∧ w'.heap[b]? = w.heap[b]?) {v x} (h : DRel w A v x) : DRel w' A' v x := by
  induction h with
  | undef x => exact .undef x
  | int k n => exact .int k n
  | bool b => exact .bool b
  | str s => exact .str s
  | nilp => exact .nilp
  | agg cs xs h _ ih => exact .agg cs xs h ih
  | tup cs xs h _ ih => exact .tup cs xs h ih
  | none sh a cap => exact .none sh a cap
  | data sh rows b off cap f hb hcap hf hm _ ih =>
    exact .data sh rows b off cap f (hA b hb).1 hcap hf (fun i r j v h1 h2 => by rw [World.cell?_of_block (w := w) (hA b hb).2]; exact hm i r j v h1 h2) ih
  | pdat sh row j b off f hb hf hm _ ih =>
    exact .pdat sh row j b off f (hA b hb).1 hf (fun j v h1 => by rw [World.cell?_of_block (w := w) (hA b hb).2]; exact hm j v h1) ih
  | fn g caps xs h _ ih => exact .fn g caps xs h ih

/-- where the blocks lie: the real block, and the header of a slice -/
structure Emb where
  m : Nat → Option Nat
  hd : Nat → Value

inductive VRel (w : World) (h : Heap) (L : Nat → Prop) (E : Emb) (A : Nat → Prop) : V → Value → Prop
  | pure {v x} (hd : DRel w A v x) : VRel w h L E A v x
  | agg (cs : List V) (xs : Array Value) (hl : cs.length = xs.size) (hc : ∀ (i : Nat) (v : V) (x : Value), cs[i]? = some v → xs[i]? = some x → VRel w h L E A v x) : VRel w h L E A (.agg cs) (.agg xs)
  | tup (cs : List V) (xs : Array Value) (hl : cs.length = xs.size) (hc : ∀ (i : Nat) (v : V) (x : Value), cs[i]? = some v → xs[i]? = some x → VRel w h L E A v x) : VRel w h L E A (.tup cs) (.tuple xs)
  | nils (sh) : VRel w h L E A (.nils sh) (.slice none 0 0)
  | vs (k x) (hL : L k) (hx : ∃ a l c, x = .slice a l c) (hh : ∀ b, h.get k = some b → x = E.hd k) : VRel w h L E A (.vs k) x
  | sub (k lo hi x) (hL : L k) (hx : ∃ a l c, x = .slice a l c) (hh : ∀ b, h.get k = some b → lo ≤ hi ∧ hi ≤ b.rows.length ∧ ((E.m k = none ∧ x = .slice none 0 0) ∨ ∃ r off cap, E.m k = some r ∧ hi - lo ≤ cap ∧ (lo < hi → off = lo * b.sh.length) ∧ x = .slice (some ⟨r, off, none⟩) (hi - lo) cap)) : VRel w h L E A (.sub k lo hi) x
  | ptr (k i j x) (hL : L k) (hx : ∃ a, x = .pointer a) (hh : ∀ b, h.get k = some b → i < b.rows.length ∧ ∃ r, E.m k = some r ∧ x = .pointer (some ⟨r, i * b.sh.length + j, none⟩)) : VRel w h L E A (.ptr k i j) x
  | fn (g) (caps : List V) (xs : Array Value) (hl : caps.length = xs.size) (hc : ∀ (i : Nat) (v : V) (x : Value), caps[i]? = some v → xs[i]? = some x → VRel w h L E A v x) : VRel w h L E A (.fn g caps) (.func (.func g) #[] xs)
  | gd (j q v x) : VRel w h L E A (.gd j q v) x

theorem VRel.mono {w w' : World} {h h' : Heap} {L L' : Nat → Prop} {E E' : Emb} {A A' : Nat → Prop} (hA : ∀ b, A b → A' b ∧ w'.heap[b]? = w.heap[b]?) (hL : ∀ k, L k → L' k)
    (hh : ∀ k b', L k → h'.get k = some b' → ∃ b, h.get k = some b ∧ b.rows.length ≤ b'.rows.length ∧ b.sh = b'.sh ∧ E'.m k = E.m k ∧ E'.hd k = E.hd k) {v x} (hv : VRel w h L E A v x) : VRel w' h' L' E' A' v x := by
  induction hv with
  | pure hd => exact .pure (hd.mono hA)
  | agg cs xs h _ ih => exact .agg cs xs h ih
  | tup cs xs h _ ih => exact .tup cs xs h ih
  | nils sh => exact .nils sh
  | vs k x h1 h2 h3 =>
    refine .vs k x (hL k h1) h2 fun b' hb' => ?_
    obtain ⟨b, hb, _, _, _, e⟩ := hh k b' h1 hb'
    rw [e]; exact h3 b hb
  | sub k lo hi x h1 h2 h3 =>
    refine .sub k lo hi x (hL k h1) h2 fun b' hb' => ?_
    obtain ⟨b, hb, e1, e2, e3, _⟩ := hh k b' h1 hb'
    obtain ⟨g1, g2, g3⟩ := h3 b hb
    rw [e3, ← e2]
    exact ⟨g1, by omega, g3⟩
  | ptr k i j x h1 h2 h3 =>
    refine .ptr k i j x (hL k h1) h2 fun b' hb' => ?_
    obtain ⟨b, hb, e1, e2, e3, _⟩ := hh k b' h1 hb'
    obtain ⟨hi, r, hr, hx⟩ := h3 b hb
    exact ⟨by omega, r, by rw [e3]; exact hr, by rw [← e2]; exact hx⟩
  | fn g caps xs h _ ih => exact .fn g caps xs h ih
  | gd j q v x => exact .gd j q v x

/-- How a block lies in memory. -/
structure BRel (w : World) (h : Heap) (L : Nat → Prop) (E : Emb) (A : Nat → Prop) (k : Nat) (b : Blk) : Prop where
  len : ∀ r ∈ b.rows, r.length = b.sh.length
  fits : b.vec = true → ∀ r ∈ b.rows, FitsL b.sh r
  mem : (E.m k = none ∧ b.vec = true ∧ b.rows = [] ∧ E.hd k = .slice none 0 0) ∨
    ∃ r cs T, E.m k = some r ∧ w.heap[r]? = some (.cells cs T (0, 0)) ∧
      (∀ (i : Nat) (row : List V) (j : Nat) (v : V), b.rows[i]? = some row → row[j]? = some v → ∃ x, cs[i * b.sh.length + j]? = some x ∧ (if b.vec then DRel w A v x else VRel w h L E A v x)) ∧
      (b.vec = true → ∃ cap, E.hd k = .slice (some ⟨r, 0, none⟩) b.rows.length cap ∧ b.rows.length ≤ cap ∧ cap * b.sh.length ≤ cs.size)

/-- the blocks that values may look at: old ones that were let, and all new ones, but for the call's own that it may still write -/
def Ab (n0 : Nat) (A0 : Nat → Prop) (w : World) (h : Heap) (E : Emb) (b : Nat) : Prop :=
  (A0 b ∨ n0 ≤ b) ∧ b < w.heap.size ∧ ∀ k bl, h.get k = some bl → bl.fr = false → E.m k ≠ some b

structure SRel (n0 : Nat) (A0 L : Nat → Prop) (w : World) (t : List V) (h : Heap) (a : Array Value) (E : Emb) : Prop where
  len : t.length = a.size
  tv : ∀ (i : Nat) (v : V) (x : Value), t[i]? = some v → a[i]? = some x → VRel w h L E (Ab n0 A0 w h E) v x
  hb : ∀ k b, h.get k = some b → BRel w h L E (Ab n0 A0 w h E) k b
  hl : ∀ k b, h.get k = some b → L k
  own : ∀ k b r, h.get k = some b → E.m k = some r → n0 ≤ r ∧ r < w.heap.size
  inj : ∀ k b k' b' r, h.get k = some b → h.get k' = some b' → E.m k = some r → E.m k' = some r → k = k'
  nh : n0 ≤ w.heap.size
  a0 : ∀ b, A0 b → b < n0

/-- what is known of values under a guard -/
def TRel (G : List Nat) (VR : V → Value → Prop) (t : List V) (a : Array Value) : Prop :=
  ∀ (i j : Nat) (q : Bool) (v : V), t[i]? = some (.gd j q v) → j ∈ G ∧ (a[j]? = some (.bool q) → ∀ x, a[i]? = some x → VR v x)

/-! heaps -/
theorem Heap.get_ins (h : Heap) (k : Nat) (b : Blk) (i : Nat) : (h.ins k b).get i = if i = k then some b else h.get i := by
  induction h with
  | nil =>
    simp only [Heap.ins, Heap.get]
    by_cases e : i = k
    · subst e; simp
    · have : Nat.beq k i = false := Bool.eq_false_iff.2 fun h => e (Nat.eq_of_beq_eq_true h).symm
      simp [this, e]
  | cons p r ih =>
    obtain ⟨q, c⟩ := p
    simp only [Heap.ins]
    by_cases h1 : Nat.blt q k = true
    · have hlt : q < k := by simpa [Nat.blt_eq] using h1
      rw [h1]; simp only [cond_true, Heap.get]
      by_cases e : Nat.beq q i = true
      · have : q = i := Nat.eq_of_beq_eq_true e
        subst this
        have hne : ¬ q = k := by omega
        simp [hne]
      · have e' : Nat.beq q i = false := Bool.eq_false_iff.2 e
        rw [e']; simp only [cond_false]; exact ih
    · have h1' : Nat.blt q k = false := Bool.eq_false_iff.2 h1
      rw [h1']; simp only [cond_false]
      by_cases h2 : Nat.beq q k = true
      · have : q = k := Nat.eq_of_beq_eq_true h2
        subst this
        rw [h2]; simp only [cond_true, Heap.get]
        by_cases e : Nat.beq q i = true
        · have : q = i := Nat.eq_of_beq_eq_true e
          subst this; simp
        · have e' : Nat.beq q i = false := Bool.eq_false_iff.2 e
          have hne : ¬ i = q := by intro h; subst h; simp at e
          rw [e']; simp [hne]
      · have h2' : Nat.beq q k = false := Bool.eq_false_iff.2 h2
        rw [h2']; simp only [cond_false, Heap.get]
        by_cases e : Nat.beq k i = true
        · have : k = i := Nat.eq_of_beq_eq_true e
          subst this; simp
        · have e' : Nat.beq k i = false := Bool.eq_false_iff.2 e
          have hne : ¬ i = k := by intro h; subst h; simp at e
          rw [e']; simp [hne]

theorem Heap.get_freeze (h : Heap) (ks : List Nat) (i : Nat) : (h.freeze ks).get i = (h.get i).map fun b => if ks.any (Nat.beq i) then { b with fr := true } else b := by
  induction h with
  | nil => rfl
  | cons p r ih =>
    obtain ⟨q, c⟩ := p
    simp only [Heap.freeze, Heap.get]
    by_cases e : Nat.beq q i = true
    · have : q = i := Nat.eq_of_beq_eq_true e
      subst this
      simp only [e, cond_true, Option.map_some]
      cases ks.any (Nat.beq q) <;> simp
    · have e' : Nat.beq q i = false := Bool.eq_false_iff.2 e
      simp only [e', cond_false]; exact ih

theorem Heap.get_del (h : Heap) (k i : Nat) : (h.del k).get i = if i = k then none else h.get i := by
  induction h with
  | nil => simp [Heap.del, Heap.get]
  | cons p r ih =>
    obtain ⟨q, c⟩ := p
    simp only [Heap.del]
    by_cases e : Nat.beq q k = true
    · have : q = k := Nat.eq_of_beq_eq_true e
      subst this
      rw [e]; simp only [cond_true, Heap.get]
      by_cases e2 : Nat.beq q i = true
      · have : q = i := Nat.eq_of_beq_eq_true e2
        subst this; rw [ih]; simp
      · have e2' : Nat.beq q i = false := Bool.eq_false_iff.2 e2
        rw [e2']; simp only [cond_false]; exact ih
    · have e' : Nat.beq q k = false := Bool.eq_false_iff.2 e
      rw [e']; simp only [cond_false, Heap.get]
      by_cases e2 : Nat.beq q i = true
      · have : q = i := Nat.eq_of_beq_eq_true e2
        subst this
        have hne : ¬ q = k := by intro h; subst h; simp at e
        simp [hne]
      · have e2' : Nat.beq q i = false := Bool.eq_false_iff.2 e2
        rw [e2']; simp only [cond_false]; exact ih

end Go.Vm
