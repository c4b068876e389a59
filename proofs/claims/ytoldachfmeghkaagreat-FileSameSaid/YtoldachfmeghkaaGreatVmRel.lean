import Derived.Test.YtoldachfmeghkaaGreatVmCore
import Derived.Below
namespace Go.Vm
structure Below (B : Nat) (w w' : World) : Prop where
  os : w'.os = w.os
  tape : w'.tape = w.tape
  output : w'.output = w.output
  drawn : w.drawn ≤ w'.drawn
  size : w.heap.size ≤ w'.heap.size
  block : ∀ k, k < B → w'.heap[k]? = w.heap[k]?
namespace Below
theorem kit {B : Nat} {w w' : World} (h : Below B w w') : Go.RowKit.Below B w w' := ⟨h.os, h.tape, h.output, h.size, h.block⟩
theorem of {B : Nat} {w w' : World} (h : Go.RowKit.Below B w w') (hd : w.drawn ≤ w'.drawn) : Below B w w' := ⟨h.os, h.tape, h.output, hd, h.size, h.block⟩
theorem refl (B : Nat) (w : World) : Below B w w := of (.refl B w) (Nat.le_refl _)
theorem trans {B : Nat} {a b c : World} (h : Below B a b) (k : Below B b c) : Below B a c := of (h.kit.trans k.kit) (Nat.le_trans h.drawn k.drawn)
theorem mono {B B' : Nat} {w w' : World} (h : Below B w w') (hB : B' ≤ B) : Below B' w w' := of (h.kit.mono hB) h.drawn
theorem drew {B : Nat} {a w : World} (h : Below B a w) : Below B a w.drew := of h.kit.drew (Nat.le_trans h.drawn (Nat.le_succ _))
theorem alloc {B : Nat} {a w : World} (h : Below B a w) (hB : B ≤ w.heap.size) (o : Obj) : Below B a (w.alloc o) := of (h.kit.alloc hB o) h.drawn
theorem setCell {B : Nat} {a w : World} (h : Below B a w) {p : Addr} (hp : B ≤ p.block) (u : Value) : Below B a (w.setCell p u) := of (h.kit.setCell hp u) h.drawn
theorem heap_setCell (w : World) (a : Addr) (u : Value) (k : Nat) (h : k ≠ a.block) : (w.setCell a u).heap[k]? = w.heap[k]? := Go.RowKit.Below.heap_setCell w a u k h
theorem cell {B : Nat} {w w' : World} (h : Below B w w') {p : Addr} (hp : p.block < B) : w'.cell? p = w.cell? p := h.kit.cell hp
theorem frame {W w' : World} (h : Below W.heap.size W w') (may : MemPlace → Prop) : W.keptBut w' may := h.kit.frame may
theorem same {W w' : World} (h : Below W.heap.size W w') {p : MemPlace} (hp : p.block < W.heap.size) : W.sameAt w' p := h.kit.same hp
end Below
inductive Fits : CK → V → Prop
  | int (k n) : Fits (.int k) (.int k n)
  | bool (b) : Fits .bool (.bool b)
  | str (s) : Fits .str (.str s)
  | sl (sh rows) : Fits (.sl sh) (.data sh rows)
  | mp (rows) : Fits .mp (.mdat rows)
  | other : Fits .other .undef
def FitsL (sh : List CK) (row : List V) : Prop := sh.length = row.length ∧ ∀ (j : Nat) (c : CK) (v : V), sh[j]? = some c → row[j]? = some v → Fits c v
def Born (es : Array MapEntry) (clk : Nat) : Prop :=
  (∀ (i : Nat) (e : MapEntry), es[i]? = some e → e.born < clk) ∧ ∀ (i j : Nat) (e e' : MapEntry), es[i]? = some e → es[j]? = some e' → i < j → e.born < e'.born
inductive DRel (w : World) (A : Nat → Prop) : V → Value → Prop
  | undef (x) : DRel w A .undef x
  | int (k n) : DRel w A (.int k n) (.int k n)
  | bool (b) : DRel w A (.bool b) (.bool b)
  | str (s) : DRel w A (.str s) (.string s)
  | nilp : DRel w A .nilp (.pointer none)
  | agg (cs : List V) (xs : Array Value) (h : cs.length = xs.size) (hc : ∀ (i : Nat) (v : V) (x : Value), cs[i]? = some v → xs[i]? = some x → DRel w A v x) : DRel w A (.agg cs) (.agg xs)
  | tup (cs : List V) (xs : Array Value) (h : cs.length = xs.size) (hc : ∀ (i : Nat) (v : V) (x : Value), cs[i]? = some v → xs[i]? = some x → DRel w A v x) : DRel w A (.tup cs) (.tuple xs)
  | none (sh) (a : Option Addr) (cap : Nat) : DRel w A (.data sh []) (.slice a 0 cap)
  | data (sh) (rows : List (List V)) (b off cap : Nat) (f : Nat → Value) (hA : A b) (hcap : rows.length ≤ cap) (hf : ∀ r ∈ rows, FitsL sh r)
      (hm : ∀ (i : Nat) (r : List V) (j : Nat) (v : V), rows[i]? = some r → r[j]? = some v → w.cell? ⟨b, off + (i * sh.length + j), none⟩ = some (f (i * sh.length + j)))
      (hc : ∀ (i : Nat) (r : List V) (j : Nat) (v : V), rows[i]? = some r → r[j]? = some v → DRel w A v (f (i * sh.length + j))) : DRel w A (.data sh rows) (.slice (some ⟨b, off, none⟩) rows.length cap)
  | pdat (sh) (row : List V) (j b off : Nat) (f : Nat → Value) (hA : A b) (hf : FitsL sh row)
      (hm : ∀ (j : Nat) (v : V), row[j]? = some v → w.cell? ⟨b, off + j, none⟩ = some (f j)) (hc : ∀ (j : Nat) (v : V), row[j]? = some v → DRel w A v (f j)) : DRel w A (.pdat sh row j) (.pointer (some ⟨b, off + j, none⟩))
  | fn (g) (caps : List V) (xs : Array Value) (h : caps.length = xs.size) (hc : ∀ (i : Nat) (v : V) (x : Value), caps[i]? = some v → xs[i]? = some x → DRel w A v x) : DRel w A (.fn g caps) (.func (.func g) #[] xs)
  | unk (b) : DRel w A .unk (.bool b)
  | mnil : DRel w A (.mdat []) (.map none)
  | mdat (rows : List (List V)) (r : Nat) (es : Array MapEntry) (clk : Nat) (kf vf : Nat → V) (hA : A r) (hw : w.heap[r]? = some (.map es clk)) (hl : es.size = rows.length)
      (hr : ∀ (i : Nat) (row : List V), rows[i]? = some row → row = [kf i, vf i]) (hb : Born es clk) (hk : ∀ (i : Nat) (e : MapEntry), es[i]? = some e → DRel w A (kf i) e.key)
      (hv : ∀ (i : Nat) (e : MapEntry), es[i]? = some e → DRel w A (vf i) e.val) : DRel w A (.mdat rows) (.map (some r))
theorem DRel.mono {w w' : World} {A A' : Nat → Prop} (hA : ∀ b, A b → A' b ∧ w'.heap[b]? = w.heap[b]?) {v x} (h : DRel w A v x) : DRel w' A' v x := by
  induction h with
  | undef x => exact .undef x
  | int k n => exact .int k n
  | bool b => exact .bool b
  | str s => exact .str s
  | nilp => exact .nilp
  | agg cs xs h _ ih => exact .agg cs xs h ih
  | tup cs xs h _ ih => exact .tup cs xs h ih
  | none sh a cap => exact .none sh a cap
  | data sh rows b off cap f hb hcap hf hm _ ih =>
    exact .data sh rows b off cap f (hA b hb).1 hcap hf (fun i r j v h1 h2 => by rw [World.cell?_of_block (w := w) (hA b hb).2]; exact hm i r j v h1 h2) ih
  | pdat sh row j b off f hb hf hm _ ih =>
    exact .pdat sh row j b off f (hA b hb).1 hf (fun j v h1 => by rw [World.cell?_of_block (w := w) (hA b hb).2]; exact hm j v h1) ih
  | fn g caps xs h _ ih => exact .fn g caps xs h ih
  | unk b => exact .unk b
  | mnil => exact .mnil
  | mdat rows r es clk kf vf hb hw hl hr hbn _ _ ihk ihv => exact .mdat rows r es clk kf vf (hA r hb).1 (by rw [(hA r hb).2]; exact hw) hl hr hbn ihk ihv
structure MapIn (w : World) (A : Nat → Prop) (rows : List (List V)) (es : Array MapEntry) (clk : Nat) : Prop where
  len : es.size = rows.length
  rel : ∀ (i : Nat) (row : List V) (e : MapEntry), rows[i]? = some row → es[i]? = some e → ∃ kv vv, row = [kv, vv] ∧ DRel w A kv e.key ∧ DRel w A vv e.val
  born : Born es clk
theorem MapIn.mono {w w' : World} {A A' : Nat → Prop} {rows es clk} (hA : ∀ b, A b → A' b ∧ w'.heap[b]? = w.heap[b]?) (m : MapIn w A rows es clk) : MapIn w' A' rows es clk :=
  ⟨m.len, fun i row e h1 h2 => by obtain ⟨kv, vv, h3, h4, h5⟩ := m.rel i row e h1 h2; exact ⟨kv, vv, h3, h4.mono hA, h5.mono hA⟩, m.born⟩
theorem MapIn.drel {w A rows es clk r} (m : MapIn w A rows es clk) (hA : A r) (hw : w.heap[r]? = some (.map es clk)) : DRel w A (.mdat rows) (.map (some r)) := by
  have hi : ∀ (i : Nat) (e : MapEntry), es[i]? = some e → ∃ row, rows[i]? = some row := fun i e he => by
    have := (Array.getElem?_eq_some_iff.1 he).1
    exact ⟨rows[i]'(by rw [← m.len]; exact this), List.getElem?_eq_getElem _⟩
  refine .mdat rows r es clk (fun i => (rows.getD i []).getD 0 .undef) (fun i => (rows.getD i []).getD 1 .undef) hA hw m.len (fun i row h => ?_) m.born (fun i e he => ?_) (fun i e he => ?_)
  · have hlt := (List.getElem?_eq_some_iff.1 h).1
    have hlt' : i < es.size := by rw [m.len]; exact hlt
    obtain ⟨kv, vv, h3, _, _⟩ := m.rel i row es[i] h (Array.getElem?_eq_getElem hlt')
    have : rows.getD i [] = row := by simp [List.getD_eq_getElem?_getD, h]
    rw [this, h3]; rfl
  · obtain ⟨row, h⟩ := hi i e he
    obtain ⟨kv, vv, h3, h4, _⟩ := m.rel i row e h he
    have : rows.getD i [] = row := by simp [List.getD_eq_getElem?_getD, h]
    simp only [this, h3]; exact h4
  · obtain ⟨row, h⟩ := hi i e he
    obtain ⟨kv, vv, h3, _, h5⟩ := m.rel i row e h he
    have : rows.getD i [] = row := by simp [List.getD_eq_getElem?_getD, h]
    simp only [this, h3]; exact h5
structure Emb where
  m : Nat → Option Nat
  hd : Nat → Value
inductive VRel (w : World) (h : Heap) (L : Nat → Prop) (E : Emb) (A : Nat → Prop) : V → Value → Prop
  | pure {v x} (hd : DRel w A v x) : VRel w h L E A v x
  | agg (cs : List V) (xs : Array Value) (hl : cs.length = xs.size) (hc : ∀ (i : Nat) (v : V) (x : Value), cs[i]? = some v → xs[i]? = some x → VRel w h L E A v x) : VRel w h L E A (.agg cs) (.agg xs)
  | tup (cs : List V) (xs : Array Value) (hl : cs.length = xs.size) (hc : ∀ (i : Nat) (v : V) (x : Value), cs[i]? = some v → xs[i]? = some x → VRel w h L E A v x) : VRel w h L E A (.tup cs) (.tuple xs)
  | nils (sh) : VRel w h L E A (.nils sh) (.slice none 0 0)
  | vs (k x) (hL : L k) (hx : ∃ a l c, x = .slice a l c) (hh : ∀ b, h.get k = some b → x = E.hd k) : VRel w h L E A (.vs k) x
  | sub (k lo hi x) (hL : L k) (hx : ∃ a l c, x = .slice a l c) (hh : ∀ b, h.get k = some b → lo ≤ hi ∧ hi ≤ b.rows.length ∧ ((E.m k = none ∧ x = .slice none 0 0) ∨ ∃ r off cap, E.m k = some r ∧ hi - lo ≤ cap ∧ (lo < hi → off = lo * b.sh.length) ∧ x = .slice (some ⟨r, off, none⟩) (hi - lo) cap)) : VRel w h L E A (.sub k lo hi) x
  | ptr (k i j x) (hL : L k) (hx : ∃ a, x = .pointer a) (hh : ∀ b, h.get k = some b → i < b.rows.length ∧ ∃ r, E.m k = some r ∧ x = .pointer (some ⟨r, i * b.sh.length + j, none⟩)) : VRel w h L E A (.ptr k i j) x
  | fn (g) (caps : List V) (xs : Array Value) (hl : caps.length = xs.size) (hc : ∀ (i : Nat) (v : V) (x : Value), caps[i]? = some v → xs[i]? = some x → VRel w h L E A v x) : VRel w h L E A (.fn g caps) (.func (.func g) #[] xs)
  | mp (k x) (hL : L k) (hx : ∃ a, x = .map a) (hh : ∀ b, h.get k = some b → ∃ r, E.m k = some r ∧ x = .map (some r)) : VRel w h L E A (.mp k) x
  | gd (j q v x) : VRel w h L E A (.gd j q v) x
theorem VRel.mono {w w' : World} {h h' : Heap} {L L' : Nat → Prop} {E E' : Emb} {A A' : Nat → Prop} (hA : ∀ b, A b → A' b ∧ w'.heap[b]? = w.heap[b]?) (hL : ∀ k, L k → L' k)
    (hh : ∀ k b', L k → h'.get k = some b' → ∃ b, h.get k = some b ∧ b.rows.length ≤ b'.rows.length ∧ b.sh = b'.sh ∧ E'.m k = E.m k ∧ E'.hd k = E.hd k) {v x} (hv : VRel w h L E A v x) : VRel w' h' L' E' A' v x := by
  induction hv with
  | pure hd => exact .pure (hd.mono hA)
  | agg cs xs h _ ih => exact .agg cs xs h ih
  | tup cs xs h _ ih => exact .tup cs xs h ih
  | nils sh => exact .nils sh
  | vs k x h1 h2 h3 =>
    refine .vs k x (hL k h1) h2 fun b' hb' => ?_
    obtain ⟨b, hb, _, _, _, e⟩ := hh k b' h1 hb'
    rw [e]; exact h3 b hb
  | sub k lo hi x h1 h2 h3 =>
    refine .sub k lo hi x (hL k h1) h2 fun b' hb' => ?_
    obtain ⟨b, hb, e1, e2, e3, _⟩ := hh k b' h1 hb'
    obtain ⟨g1, g2, g3⟩ := h3 b hb
    rw [e3, ← e2]
    exact ⟨g1, by omega, g3⟩
  | ptr k i j x h1 h2 h3 =>
    refine .ptr k i j x (hL k h1) h2 fun b' hb' => ?_
    obtain ⟨b, hb, e1, e2, e3, _⟩ := hh k b' h1 hb'
    obtain ⟨hi, r, hr, hx⟩ := h3 b hb
    exact ⟨by omega, r, by rw [e3]; exact hr, by rw [← e2]; exact hx⟩
  | fn g caps xs h _ ih => exact .fn g caps xs h ih
  | mp k x h1 h2 h3 =>
    refine .mp k x (hL k h1) h2 fun b' hb' => ?_
    obtain ⟨b, hb, _, _, e, _⟩ := hh k b' h1 hb'
    rw [e]; exact h3 b hb
  | gd j q v x => exact .gd j q v x
def ItIn (w : World) (A : Nat → Prop) (mt : Nat) (rows : List (List V)) (seen : List Nat) (o : Obj) : Prop :=
  (mt ≠ 0 ∧ ((o = .mapIter none 0 #[] 0 ∧ rows = [] ∧ seen = []) ∨
  ∃ m es clk, o = .mapIter (some m) clk ((seen.reverse.map fun i => (es.getD i default).born).toArray) clk ∧ A m ∧ w.heap[m]? = some (.map es clk) ∧ MapIn w A rows es clk ∧ ∀ i ∈ seen, i < es.size)) ∨
  (mt = 0 ∧ ∃ (s : ByteArray) (pos : Nat), o = .stringIter s pos ∧ rows = [[.str s, .int .i64 (pos : Int)]] ∧ seen = [])
theorem ItIn.mono {w w' : World} {A A' : Nat → Prop} {mt rows seen o} (hA : ∀ b, A b → A' b ∧ w'.heap[b]? = w.heap[b]?) (m : ItIn w A mt rows seen o) : ItIn w' A' mt rows seen o := by
  rcases m with ⟨hm, h | ⟨m, es, clk, h1, h2, h3, h4, h5⟩⟩ | h
  · exact .inl ⟨hm, .inl h⟩
  · exact .inl ⟨hm, .inr ⟨m, es, clk, h1, (hA m h2).1, by rw [(hA m h2).2]; exact h3, h4.mono hA, h5⟩⟩
  · exact .inr h
theorem ItIn.noCells {w : World} {A : Nat → Prop} {mt rows seen cs T x} (h : ItIn w A mt rows seen (.cells cs T x)) : False := by
  rcases h with ⟨_, ⟨h, _⟩ | ⟨_, _, _, h, _⟩⟩ | ⟨_, _, _, h, _⟩ <;> cases h
structure BRel (w : World) (h : Heap) (L : Nat → Prop) (E : Emb) (A : Nat → Prop) (k : Nat) (b : Blk) : Prop where
  len : ∀ r ∈ b.rows, r.length = b.sh.length
  fits : b.vec = true → ∀ r ∈ b.rows, FitsL b.sh r
  mem : (E.m k = none ∧ b.vec = true ∧ b.rows = [] ∧ E.hd k = .slice none 0 0) ∨
    (∃ r cs T, E.m k = some r ∧ w.heap[r]? = some (.cells cs T (0, 0)) ∧
      (∀ (i : Nat) (row : List V) (j : Nat) (v : V), b.rows[i]? = some row → row[j]? = some v → ∃ x, cs[i * b.sh.length + j]? = some x ∧ (if b.vec then DRel w A v x else VRel w h L E A v x)) ∧
      (b.vec = true → ∃ cap, E.hd k = .slice (some ⟨r, 0, none⟩) b.rows.length cap ∧ b.rows.length ≤ cap ∧ cap * b.sh.length ≤ cs.size) ∧ b.isMap = false) ∨
    (∃ r es clk rows, E.m k = some r ∧ w.heap[r]? = some (.map es clk) ∧ b.isMp = true ∧ b.rows = [[.mdat rows]] ∧ MapIn w A rows es clk) ∨
    ∃ r o mt rows seen, E.m k = some r ∧ w.heap[r]? = some o ∧ b.isMap = true ∧ b.isMp = false ∧ b.rows = [[.it mt rows seen, .undef]] ∧ ItIn w A mt rows seen o
theorem isMp_map {b : Blk} (h : b.isMp = true) : b.isMap = true := by simp only [Blk.isMp, Bool.and_eq_true] at h; exact h.1
theorem isMap_vec {b : Blk} (h : b.vec = true) : b.isMap = false := by simp [Blk.isMap, h]
theorem BRel.memV {w h L E A k b} (B : BRel w h L E A k b) (hm : b.isMap = false) : (E.m k = none ∧ b.vec = true ∧ b.rows = [] ∧ E.hd k = .slice none 0 0) ∨
    ∃ r cs T, E.m k = some r ∧ w.heap[r]? = some (.cells cs T (0, 0)) ∧
      (∀ (i : Nat) (row : List V) (j : Nat) (v : V), b.rows[i]? = some row → row[j]? = some v → ∃ x, cs[i * b.sh.length + j]? = some x ∧ (if b.vec then DRel w A v x else VRel w h L E A v x)) ∧
      (b.vec = true → ∃ cap, E.hd k = .slice (some ⟨r, 0, none⟩) b.rows.length cap ∧ b.rows.length ≤ cap ∧ cap * b.sh.length ≤ cs.size) := by
  rcases B.mem with h | ⟨r, cs, T, h1, h2, h3, h4, _⟩ | ⟨r, es, clk, _, _, _, h, _⟩ | ⟨r, o, mt, rows, seen, _, _, h, _⟩
  · exact .inl h
  · exact .inr ⟨r, cs, T, h1, h2, h3, h4⟩
  · rw [isMp_map h] at hm; cases hm
  · rw [hm] at h; cases h
theorem BRel.memM {w h L E A k b} (B : BRel w h L E A k b) (hm : b.isMp = true) : ∃ r es clk, E.m k = some r ∧ w.heap[r]? = some (.map es clk) ∧ MapIn w A b.ents es clk := by
  rcases B.mem with ⟨_, h, _⟩ | ⟨r, cs, T, _, _, _, _, h⟩ | ⟨r, es, clk, rows, h1, h2, _, h3, h4⟩ | ⟨r, o, mt, rows, seen, _, _, _, h, _⟩
  · have := isMap_vec h; rw [isMp_map hm] at this; cases this
  · rw [isMp_map hm] at h; cases h
  · exact ⟨r, es, clk, h1, h2, by simpa [Blk.ents, h3] using h4⟩
  · rw [h] at hm; cases hm
def Ab (n0 : Nat) (A0 : Nat → Prop) (w : World) (h : Heap) (E : Emb) (b : Nat) : Prop :=
  (A0 b ∨ n0 ≤ b) ∧ b < w.heap.size ∧ ∀ k bl, h.get k = some bl → bl.fr = false → E.m k ≠ some b
structure SRel (n0 : Nat) (A0 L : Nat → Prop) (w : World) (t : List V) (h : Heap) (a : Array Value) (E : Emb) : Prop where
  len : t.length = a.size
  tv : ∀ (i : Nat) (v : V) (x : Value), t[i]? = some v → a[i]? = some x → VRel w h L E (Ab n0 A0 w h E) v x
  hb : ∀ k b, h.get k = some b → BRel w h L E (Ab n0 A0 w h E) k b
  hl : ∀ k b, h.get k = some b → L k
  own : ∀ k b r, h.get k = some b → E.m k = some r → n0 ≤ r ∧ r < w.heap.size
  inj : ∀ k b k' b' r, h.get k = some b → h.get k' = some b' → E.m k = some r → E.m k' = some r → k = k'
  nh : n0 ≤ w.heap.size
  a0 : ∀ b, A0 b → b < n0
theorem Heap.get_ins (h : Heap) (k : Nat) (b : Blk) (i : Nat) : (h.ins k b).get i = if i = k then some b else h.get i := by
  induction h with
  | nil =>
    simp only [Heap.ins, Heap.get]
    by_cases e : i = k
    · subst e; simp
    · have : Nat.beq k i = false := Bool.eq_false_iff.2 fun h => e (Nat.eq_of_beq_eq_true h).symm
      simp [this, e]
  | cons p r ih =>
    obtain ⟨q, c⟩ := p
    simp only [Heap.ins]
    by_cases h1 : Nat.blt q k = true
    · have hlt : q < k := by simpa [Nat.blt_eq] using h1
      rw [h1]; simp only [cond_true, Heap.get]
      by_cases e : Nat.beq q i = true
      · have : q = i := Nat.eq_of_beq_eq_true e
        subst this
        have hne : ¬ q = k := by omega
        simp [hne]
      · have e' : Nat.beq q i = false := Bool.eq_false_iff.2 e
        rw [e']; simp only [cond_false]; exact ih
    · have h1' : Nat.blt q k = false := Bool.eq_false_iff.2 h1
      rw [h1']; simp only [cond_false]
      by_cases h2 : Nat.beq q k = true
      · have : q = k := Nat.eq_of_beq_eq_true h2
        subst this
        rw [h2]; simp only [cond_true, Heap.get]
        by_cases e : Nat.beq q i = true
        · have : q = i := Nat.eq_of_beq_eq_true e
          subst this; simp
        · have e' : Nat.beq q i = false := Bool.eq_false_iff.2 e
          have hne : ¬ i = q := by intro h; subst h; simp at e
          rw [e']; simp [hne]
      · have h2' : Nat.beq q k = false := Bool.eq_false_iff.2 h2
        rw [h2']; simp only [cond_false, Heap.get]
        by_cases e : Nat.beq k i = true
        · have : k = i := Nat.eq_of_beq_eq_true e
          subst this; simp
        · have e' : Nat.beq k i = false := Bool.eq_false_iff.2 e
          have hne : ¬ i = k := by intro h; subst h; simp at e
          rw [e']; simp [hne]
theorem Heap.get_freeze (h : Heap) (ks : List Nat) (i : Nat) : (h.freeze ks).get i = (h.get i).map fun b => if ks.any (Nat.beq i) then { b with fr := true } else b := by
  induction h with
  | nil => rfl
  | cons p r ih =>
    obtain ⟨q, c⟩ := p
    simp only [Heap.freeze, Heap.get]
    by_cases e : Nat.beq q i = true
    · have : q = i := Nat.eq_of_beq_eq_true e
      subst this
      simp only [e, cond_true, Option.map_some]
      cases ks.any (Nat.beq q) <;> simp
    · have e' : Nat.beq q i = false := Bool.eq_false_iff.2 e
      simp only [e', cond_false]; exact ih
theorem Heap.get_del (h : Heap) (k i : Nat) : (h.del k).get i = if i = k then none else h.get i := by
  induction h with
  | nil => simp [Heap.del, Heap.get]
  | cons p r ih =>
    obtain ⟨q, c⟩ := p
    simp only [Heap.del]
    by_cases e : Nat.beq q k = true
    · have : q = k := Nat.eq_of_beq_eq_true e
      subst this
      rw [e]; simp only [cond_true, Heap.get]
      by_cases e2 : Nat.beq q i = true
      · have : q = i := Nat.eq_of_beq_eq_true e2
        subst this; rw [ih]; simp
      · have e2' : Nat.beq q i = false := Bool.eq_false_iff.2 e2
        rw [e2']; simp only [cond_false]; exact ih
    · have e' : Nat.beq q k = false := Bool.eq_false_iff.2 e
      rw [e']; simp only [cond_false, Heap.get]
      by_cases e2 : Nat.beq q i = true
      · have : q = i := Nat.eq_of_beq_eq_true e2
        subst this
        have hne : ¬ q = k := by intro h; subst h; simp at e
        simp [hne]
      · have e2' : Nat.beq q i = false := Bool.eq_false_iff.2 e2
        rw [e2']; simp only [cond_false]; exact ih
end Go.Vm
