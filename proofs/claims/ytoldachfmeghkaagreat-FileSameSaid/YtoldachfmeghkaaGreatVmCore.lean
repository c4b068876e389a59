import Derived.Calls
import Derived.KernelRfl
namespace Go.Vm
inductive CK where
  | int (k : IntKind)
  | bool
  | str
  | sl (e : List CK)
  | mp
  | mark
  | other
mutual
def CK.beq : CK → CK → Bool
  | .int a, .int b => match a, b with
    | .i8, .i8 | .i16, .i16 | .i32, .i32 | .i64, .i64 | .u8, .u8 | .u16, .u16 | .u32, .u32 | .u64, .u64 => true
    | _, _ => false
  | .bool, .bool => true
  | .str, .str => true
  | .sl a, .sl b => CK.beqL a b
  | .mp, .mp => true
  | .mark, .mark => true
  | .other, .other => true
  | _, _ => false
def CK.beqL : List CK → List CK → Bool
  | [], [] => true
  | a :: l, b :: r => CK.beq a b && CK.beqL l r
  | _, _ => false
end
inductive V where
  | undef
  | int (k : IntKind) (n : Int)
  | bool (b : Bool)
  | str (s : ByteArray)
  | agg (cs : List V)
  | tup (vs : List V)
  | nils (sh : List CK)
  | nilp
  | data (sh : List CK) (rows : List (List V))
  | pdat (sh : List CK) (row : List V) (j : Nat)
  | vs (k : Nat)
  | sub (k lo hi : Nat)
  | ptr (k i j : Nat)
  | fn (f : Nat) (caps : List V)
  | mp (k : Nat)
  | mdat (rows : List (List V))
  | unk
  | it (mt : Nat) (rows : List (List V)) (seen : List Nat)
  | gd (j : Nat) (w : Bool) (v : V)
def V.toInt : V → Int | .int _ n => n | _ => 0
def V.toBool : V → Bool | .bool b => b | _ => false
def V.toStr : V → ByteArray | .str s => s | _ => .empty
def V.toRows : V → List (List V) | .data _ r => r | _ => []
def V.toMap : V → List (List V) | .mdat r => r | _ => []
def V.cells : V → List V | .agg cs => cs | v => [v]
def CK.typed : CK → V → V
  | .int k, v => .int k v.toInt
  | .bool, v => .bool v.toBool
  | .str, v => .str v.toStr
  | .sl sh, v => .data sh v.toRows
  | .mp, v => .mdat v.toMap
  | .mark, _ => .undef
  | .other, _ => .undef
structure Blk where
  vec : Bool
  sh : List CK
  rows : List (List V)
  fr : Bool
def isMapS : List CK → Bool
  | .mark :: _ => true
  | _ => false
def Blk.isMap (b : Blk) : Bool := !b.vec && isMapS b.sh
def Blk.isMp (b : Blk) : Bool := b.isMap && Nat.beq b.sh.length 1
def Blk.ents (b : Blk) : List (List V) := match b.rows with
  | [[.mdat e]] => e
  | _ => []
abbrev Heap := List (Nat × Blk)
def Heap.get : Heap → Nat → Option Blk
  | [], _ => none
  | (i, b) :: r, k => bif Nat.beq i k then some b else Heap.get r k
def Heap.ins : Heap → Nat → Blk → Heap
  | [], k, b => [(k, b)]
  | (i, c) :: r, k, b => bif Nat.blt i k then (i, c) :: Heap.ins r k b else bif Nat.beq i k then (k, b) :: r else (k, b) :: (i, c) :: r
def Heap.del : Heap → Nat → Heap
  | [], _ => []
  | (i, c) :: r, k => bif Nat.beq i k then Heap.del r k else (i, c) :: Heap.del r k
def Heap.freeze : Heap → List Nat → Heap
  | [], _ => []
  | (i, c) :: r, ks => (i, bif ks.any (Nat.beq i) then { c with fr := true } else c) :: Heap.freeze r ks
def sortedB : Heap → Bool
  | [] => true
  | (i, _) :: r => r.all (fun p => Nat.blt i p.1) && sortedB r
structure St where
  t : List V
  h : Heap
  n : Nat
def cks (P : Program) : Nat → TypeId → List CK
  | 0, _ => [.other]
  | d + 1, t => match P.underlying t with
    | some (.int k) => [.int k]
    | some .bool => [.bool]
    | some .string => [.str]
    | some (.slice e) => [.sl (cks P d e)]
    | some (.array n e) => (List.replicate n (cks P d e)).flatten
    | some (.map _ _) => [.mp]
    | some (.struct fs) => fs.toList.flatMap fun f => cks P d f.type
    | _ => [.other]
def ck (P : Program) (t : TypeId) : List CK := cks P 12 t
def okT (P : Program) (t : TypeId) : Bool := (P.underlying t).isSome
def elemT (P : Program) (t : TypeId) : TypeId := match P.underlying t with
  | some (.slice e) => e
  | some (.array _ e) => e
  | some (.pointer e) => e
  | _ => 0
def boolT (P : Program) (t : TypeId) : Bool := match P.underlying t with
  | some .bool => true
  | _ => false
def strT (P : Program) (t : TypeId) : Bool := match P.underlying t with
  | some .string => true
  | _ => false
def slT (P : Program) (t : TypeId) : Bool := match P.underlying t with
  | some (.slice e) => okT P e
  | _ => false
def aggT (P : Program) (t : TypeId) : Bool := match P.underlying t with
  | some (.struct _) => true
  | some (.array _ _) => true
  | _ => false
def szOf (P : Program) (t : TypeId) : Nat := ((P.info? t).map (·.size)).getD 0
def bytesOfT (P : Program) (t : TypeId) : Nat := ((P.info? t).map (·.bytes)).getD 0
def zeroCell : CK → Value → V
  | .int k, .int k' n => bif CK.beq (.int k) (.int k') then .int k n else .undef
  | .bool, .bool b => .bool b
  | .str, .string s => .str s
  | .sl sh, .slice none 0 0 => .nils sh
  | .mp, .map none => .mdat []
  | _, .pointer none => .nilp
  | _, _ => .undef
def zipZero : List CK → List Value → List V
  | c :: l, v :: r => zeroCell c v :: zipZero l r
  | _, _ => []
def zeroV (P : Program) (t : TypeId) : List V :=
  zipZero (ck P t) (match (P.info? t).bind (·.zero) with
    | some z => z.cells.toList
    | none => [])
def zeroOK (P : Program) (t : TypeId) : Bool := match (P.info? t).bind (·.zero) with
  | some z => okT P t && Nat.beq z.cells.size (szOf P t) && Nat.beq (zeroV P t).length (szOf P t) && Nat.beq (ck P t).length (szOf P t)
  | none => false
def CK.holds : CK → V → Bool
  | .int k, .int k' _ => CK.beq (.int k) (.int k')
  | .bool, .bool _ => true
  | .str, .str _ => true
  | .sl sh, .data sh' _ => CK.beqL sh sh'
  | .mp, .mdat _ => true
  | _, _ => false
def holdsL : List CK → List V → Bool
  | [], [] => true
  | c :: l, v :: r => c.holds v && holdsL l r
  | _, _ => false
mutual
def V.pure0 (h : Heap) : V → V
  | .vs k => match h.get k with
    | some b => bif b.vec then .data b.sh b.rows else .undef
    | none => .undef
  | .sub k lo hi => match h.get k with
    | some b => bif b.vec then .data b.sh ((b.rows.take hi).drop lo) else .undef
    | none => .undef
  | .ptr _ _ _ => .undef
  | .mp k => match h.get k with
    | some b => bif b.isMp then .mdat b.ents else .undef
    | none => .undef
  | .nils sh => .data sh []
  | .agg cs => .agg (V.pure0L h cs)
  | .tup cs => .tup (V.pure0L h cs)
  | .fn f cs => .fn f (V.pure0L h cs)
  | .gd _ _ _ => .undef
  | v => v
def V.pure0L (h : Heap) : List V → List V
  | [] => []
  | v :: r => V.pure0 h v :: V.pure0L h r
end
mutual
def V.pure (h : Heap) : V → V
  | .vs k => match h.get k with
    | some b => bif b.vec then .data b.sh b.rows else .undef
    | none => .undef
  | .sub k lo hi => match h.get k with
    | some b => bif b.vec then .data b.sh ((b.rows.take hi).drop lo) else .undef
    | none => .undef
  | .ptr k i j => match h.get k with
    | some b => bif b.vec then .pdat b.sh (b.rows.getD i []) j else bif holdsL b.sh (V.pure0L h (b.rows.getD i [])) then .pdat b.sh (V.pure0L h (b.rows.getD i [])) j else .undef
    | none => .undef
  | .mp k => match h.get k with
    | some b => bif b.isMp then .mdat b.ents else .undef
    | none => .undef
  | .nils sh => .data sh []
  | .agg cs => .agg (V.pureL h cs)
  | .tup cs => .tup (V.pureL h cs)
  | .fn f cs => .fn f (V.pureL h cs)
  | .gd _ _ _ => .undef
  | v => v
def V.pureL (h : Heap) : List V → List V
  | [] => []
  | v :: r => V.pure h v :: V.pureL h r
end
mutual
def V.refs : V → List Nat
  | .vs k => [k]
  | .sub k _ _ => [k]
  | .ptr k _ _ => [k]
  | .mp k => [k]
  | .agg cs => V.refsL cs
  | .tup cs => V.refsL cs
  | .fn _ cs => V.refsL cs
  | _ => []
def V.refsL : List V → List Nat
  | [] => []
  | v :: r => V.refs v ++ V.refsL r
end
mutual
def V.flat : V → Bool
  | .int _ _ => true
  | .bool _ => true
  | .str _ => true
  | .undef => true
  | .agg cs => V.flatL cs
  | .tup cs => V.flatL cs
  | _ => false
def V.flatL : List V → Bool
  | [] => true
  | v :: r => V.flat v && V.flatL r
end
def deepRefs (h : Heap) (vs : List V) : List Nat :=
  let r := V.refsL vs
  r ++ (r.flatMap fun k => match h.get k with
    | some b => bif b.vec then [] else b.rows.flatMap V.refsL
    | none => [])
inductive Eff where
  | none
  | new (b : Blk)
  | put (k : Nat) (b : Blk)
  | app (k : Nat) (b : Blk)
structure OR where
  c : Bool
  v : V
  e : Eff
  fz : List Nat
def OR.fail : OR := ⟨false, .undef, .none, []⟩
def OR.val (v : V) : OR := ⟨true, v, .none, []⟩
def OR.if (c : Bool) (v : V) : OR := ⟨c, v, .none, []⟩
def beqK : IntKind → IntKind → Bool := fun a b => CK.beq (.int a) (.int b)
def V.sel (q : Bool) : V → V → OR
  | .int k a, .int k' b => .if (beqK k k') (.int k (bif q then a else b))
  | .bool a, .bool b => .val (.bool (bif q then a else b))
  | .undef, .bool b => .if (!q) (.bool b)
  | .bool a, .undef => .if q (.bool a)
  | .tup _, .bool b => .if (!q) (.bool b)
  | .bool a, .tup _ => .if q (.bool a)
  | _, _ => .fail
def intBits (op : BinOp) (k : IntKind) (x y : Int) : Int :=
  let a := BitVec.ofInt k.bits x
  let b := BitVec.ofInt k.bits y
  match op with
  | .and => k.wrap (a &&& b).toNat
  | .or => k.wrap (a ||| b).toNat
  | .xor => k.wrap (a ^^^ b).toNat
  | _ => k.wrap (a &&& ~~~b).toNat
def partV (P : Program) (t : TypeId) (cs : List V) (off : Nat) : Option V :=
  bif okT P t && Nat.ble (off + szOf P t) cs.length then
    (bif aggT P t then some (.agg ((cs.drop off).take (szOf P t))) else (match (cs.drop off).take (szOf P t) with
      | [c] => some c
      | _ => none))
  else none
def eqFs (P : Program) (rec : TypeId → V → V → Option Bool) (xs ys : List V) : List Field → Option Bool
  | [] => some true
  | f :: r => bif f.name == "_" then none else (match partV P f.type xs f.offset, partV P f.type ys f.offset with
    | some a, some b => (match rec f.type a b, eqFs P rec xs ys r with
      | some p, some q => some (p && q)
      | _, _ => none)
    | _, _ => none)
def eqT (P : Program) : Nat → TypeId → V → V → Option Bool
  | 0, _, _, _ => none
  | d + 1, t, x, y => match P.underlying t, x, y with
    | some (.int _), .int k a, .int k' b => bif beqK k k' then some (a == b) else none
    | some .bool, .bool a, .bool b => some (a == b)
    | some .string, .str a, .str b => some (a.toList == b.toList)
    | some (.struct fs), .agg xs, .agg ys => bif P.stoodInHeld t then none else eqFs P (eqT P d) xs ys fs.toList
    | _, _, _ => none
def opBin (P : Program) (op : BinOp) (t : TypeId) (x y : V) : OR :=
  match x, y with
  | .int k a, .int k' b => match op with
    | .shl => .if (decide (0 ≤ b)) (.int k (k.wrap (a * 2 ^ (min b.toNat k.bits))))
    | .shr => .if (decide (0 ≤ b)) (.int k (a.fdiv (2 ^ (min b.toNat k.bits))))
    | op => bif beqK k k' then (match op with
      | .add => .val (.int k (k.wrap (a + b)))
      | .sub => .val (.int k (k.wrap (a - b)))
      | .mul => .val (.int k (k.wrap (a * b)))
      | .quo => .if (b != 0) (.int k (k.wrap (a.tdiv b)))
      | .rem => .if (b != 0) (.int k (a.tmod b))
      | .and => .val (.int k (intBits .and k a b))
      | .or => .val (.int k (intBits .or k a b))
      | .xor => .val (.int k (intBits .xor k a b))
      | .andNot => .val (.int k (intBits .andNot k a b))
      | .eql => .val (.bool (a == b))
      | .neq => .val (.bool (a != b))
      | .lss => .val (.bool (decide (a < b)))
      | .leq => .val (.bool (decide (a ≤ b)))
      | .gtr => .val (.bool (decide (a > b)))
      | .geq => .val (.bool (decide (a ≥ b)))
      | _ => .fail) else .fail
  | .bool a, .bool b => match op with
    | .eql => bif boolT P t then .val (.bool (a == b)) else .fail
    | .neq => bif boolT P t then .val (.bool (!(a == b))) else .fail
    | _ => .fail
  | .str a, .str b => match op with
    | .eql => .val (.bool (a.toList == b.toList))
    | .neq => .val (.bool (!(a.toList == b.toList)))
    | _ => .fail
  | .data _ r, .nils _ => match op with
    | .eql => .if (slT P t) (match r with | [] => .unk | _ :: _ => .bool false)
    | .neq => .if (slT P t) (match r with | [] => .unk | _ :: _ => .bool true)
    | _ => .fail
  | .agg a, .agg b => match op with
    | .eql => bif P.eqGuardType P.depth t then .fail else (match eqT P 8 t (.agg a) (.agg b) with
      | some q => .val (.bool q)
      | none => .fail)
    | .neq => bif P.eqGuardType P.depth t then .fail else (match eqT P 8 t (.agg a) (.agg b) with
      | some q => .val (.bool (!q))
      | none => .fail)
    | _ => .fail
  | _, _ => .fail
def opUn (op : UnOp) (x : V) : OR :=
  match op, x with
  | .neg, .int k n => .val (.int k (k.wrap (0 - n)))
  | .xor, .int k n => .val (.int k (intBits .xor k (bif k.signed then -1 else k.max) n))
  | .not, .bool b => .val (.bool (!b))
  | _, _ => .fail
def typedL : Nat → List CK → List V → List V
  | _, [], _ => []
  | j, c :: l, r => c.typed (r.getD j .undef) :: typedL (j + 1) l r
def outV (P : Program) (t : TypeId) (cs : List V) : OR :=
  bif aggT P t then .val (.agg cs) else (match cs with
    | [c] => .val c
    | _ => .fail)
def opLoad (P : Program) (t : TypeId) (h : Heap) (a : V) : OR :=
  match a with
  | .ptr k i j => match h.get k with
    | some b => bif okT P t && Nat.ble (j + szOf P t) b.sh.length && !b.isMap then
        outV P t (bif b.vec then typedL j ((b.sh.drop j).take (szOf P t)) (b.rows.getD i []) else (((b.rows.getD i []).drop j).take (szOf P t)))
      else .fail
    | none => .fail
  | .pdat sh row j => bif okT P t && Nat.ble (j + szOf P t) sh.length then outV P t (typedL j ((sh.drop j).take (szOf P t)) row) else .fail
  | _ => .fail
def V.one : V → Bool
  | .int _ _ | .bool _ | .str _ | .nils _ | .nilp | .data _ _ | .pdat _ _ _ | .vs _ | .sub _ _ _ | .ptr _ _ _ | .fn _ _ | .mp _ | .mdat _ => true
  | _ => false
def V.whole : V → Bool
  | .agg _ => true
  | v => v.one
def setCells : List V → Nat → List V → List V
  | l, _, [] => l
  | l, j, v :: r => setCells (l.set j v) (j + 1) r
def nilsTy (P : Program) (t : TypeId) : V → V
  | .nils sh => bif slT P t then .nils (ck P (elemT P t)) else .nils sh
  | v => v
def opStore (P : Program) (t : TypeId) (h : Heap) (a v : V) : OR :=
  match a with
  | .ptr k i j => match h.get k with
    | some b =>
      let z := szOf P t
      let cs := V.cells v
      let ps := V.pureL h cs
      bif okT P t && Nat.ble (j + z) b.sh.length && Nat.beq cs.length z && !b.fr && cs.all V.one && !b.isMap then
        (bif b.vec then ⟨holdsL ((b.sh.drop j).take z) ps && !((deepRefs h cs).any (Nat.beq k)), .undef, .put k { b with rows := b.rows.set i (setCells (b.rows.getD i []) j ps) }, deepRefs h cs⟩
          else ⟨true, .undef, .put k { b with rows := b.rows.set i (setCells (b.rows.getD i []) j cs) }, []⟩)
      else .fail
    | none => .fail
  | _ => .fail
def fieldOf (P : Program) (s : TypeId) (f : Nat) : Option Field := match P.underlying s with
  | some (.struct fs) => fs[f]?
  | _ => none
def opFieldAddr (P : Program) (s : TypeId) (h : Heap) (a : V) (f : Nat) : OR :=
  match fieldOf P s f with
  | some fl => bif Nat.beq (szOf P fl.type) 0 || !okT P fl.type then .fail else (match a with
    | .ptr k i j => .if (h.get k).isSome (.ptr k i (j + fl.offset))
    | .pdat sh row j => .val (.pdat sh row (j + fl.offset))
    | _ => .fail)
  | none => .fail
def part (P : Program) (t : TypeId) (cs : List V) (off : Nat) : OR :=
  match partV P t cs off with
  | some v => .val v
  | none => .fail
def opField (P : Program) (s : TypeId) (a : V) (f : Nat) : OR :=
  match fieldOf P s f, a with
  | some fl, .agg cs => part P fl.type cs fl.offset
  | _, _ => .fail
def inR (i : Int) (n : Nat) : Bool := decide (0 ≤ i) && decide (i < (n : Int))
def opIndexAddr (P : Program) (t : TypeId) (h : Heap) (x ix : V) : OR :=
  match ix with
  | .int _ i => match x with
    | .data sh rows => bif slT P t && Nat.beq (szOf P (elemT P t)) sh.length then .if (inR i rows.length) (.pdat sh (rows.getD i.toNat []) 0) else .fail
    | .vs k => match h.get k with
      | some b => bif slT P t && b.vec && Nat.beq (szOf P (elemT P t)) b.sh.length then .if (inR i b.rows.length) (.ptr k i.toNat 0) else .fail
      | none => .fail
    | .sub k lo hi => match h.get k with
      | some b => bif slT P t && b.vec && Nat.beq (szOf P (elemT P t)) b.sh.length then .if (inR i (hi - lo)) (.ptr k (lo + i.toNat) 0) else .fail
      | none => .fail
    | .ptr k r j => match P.underlying t with
      | some (.array n e) => .if ((h.get k).isSome && okT P e && inR i n) (.ptr k r (j + i.toNat * szOf P e))
      | _ => .fail
    | .pdat sh row j => match P.underlying t with
      | some (.array n e) => .if (okT P e && inR i n) (.pdat sh row (j + i.toNat * szOf P e))
      | _ => .fail
    | _ => .fail
  | _ => .fail
def selCells (q : Bool) : List V → List V → Option (List V)
  | [], [] => some []
  | a :: l, b :: r => match V.sel q a b, selCells q l r with
    | ⟨true, v, _, _⟩, some s => some (v :: s)
    | _, _ => none
  | _, _ => none
def selRows (i : Int) : Nat → List (List V) → Option (List V)
  | _, [] => none
  | _, [r] => some r
  | j, r :: l => match selRows i (j + 1) l with
    | some s => selCells (decide (i = (j : Int))) r s
    | none => none
def chunks (z : Nat) : Nat → List V → List (List V)
  | 0, _ => []
  | n + 1, l => l.take z :: chunks z n (l.drop z)
def opIndex (P : Program) (t : TypeId) (x ix : V) : OR :=
  match ix, x with
  | .int _ i, .agg cs => match P.underlying t with
    | some (.array n e) => bif okT P e && Nat.beq cs.length (n * szOf P e) then (match selRows i 0 (chunks (szOf P e) n cs) with
      | some r => (match outV P e r with
        | ⟨c, v, _, _⟩ => .if (c && inR i n) v)
      | none => .fail) else .fail
    | _ => .fail
  | .int _ i, .str s => .if (inR i s.size && strT P t) (.int .u8 ((s.data.toList.getD i.toNat 0).toNat : Int))
  | _, _ => .fail
def fillParts (z : Nat) : List V → List (Nat × Nat × V) → Option (List V)
  | cs, [] => some cs
  | cs, (off, w, v) :: r => bif V.whole v && Nat.beq (V.cells v).length w && Nat.ble (off + w) z then fillParts z (setCells cs off (V.cells v)) r else none
def placesOf (P : Program) (fs : List Field) : List (Nat × Nat) := fs.map fun f => (f.offset, szOf P f.type)
def opBuild (P : Program) (t : TypeId) (parts : List (Nat × V)) : OR :=
  match P.underlying t with
  | some (.struct fs) =>
    let pl := placesOf P fs.toList
    match fillParts (szOf P t) (zeroV P t) (parts.map fun (i, v) => match pl[i]? with
      | some (off, w) => (off, w, v)
      | none => (0, 0, .undef)) with
    | some cs => bif parts.all (fun p => Nat.blt p.1 pl.length) && zeroOK P t && fs.toList.all (fun f => okT P f.type) then .val (.agg cs) else .fail
    | none => .fail
  | some (.array _ e) =>
    match fillParts (szOf P t) (zeroV P t) (parts.map fun (i, v) => (i * szOf P e, szOf P e, v)) with
    | some cs => bif zeroOK P t && okT P e then .val (.agg cs) else .fail
    | none => .fail
  | _ => .fail
def zeroRow (P : Program) (e : TypeId) : List V := V.pureL [] (zeroV P e)
def keysFrom : Nat → List (Nat × V) → Bool
  | _, [] => true
  | k, p :: r => Nat.beq p.1 k && keysFrom (k + 1) r
def opBuildSlice (P : Program) (t : TypeId) (len : Nat) (parts : List (Nat × V)) (h : Heap) (id : Nat) : OR :=
  let e := elemT P t
  let sh := ck P e
  let rows := parts.map fun p => V.pureL h (V.cells p.2)
  ⟨slT P t && zeroOK P e && Nat.blt 0 (szOf P e) && Nat.beq parts.length len && keysFrom 0 parts && parts.all (fun p => V.whole p.2) && rows.all (holdsL sh) && Nat.ble (len * szOf P e) 16777216,
    .vs id, .new ⟨true, sh, rows, false⟩, deepRefs h (parts.map (·.2))⟩
def opMakeSlice (P : Program) (t : TypeId) (l c : V) (id : Nat) : OR :=
  match l, c with
  | .int _ l, .int _ c =>
    let e := elemT P t
    let sh := ck P e
    ⟨decide (0 ≤ l) && decide (l ≤ c) && decide (c * (bytesOfT P e : Int) ≤ 140737488355328) && decide (c ≤ 140737488355328) && (slT P t && zeroOK P e && Nat.blt 0 (szOf P e) && holdsL sh (zeroRow P e)),
      .vs id, .new ⟨true, sh, List.replicate l.toNat (zeroRow P e), false⟩, []⟩
  | _, _ => .fail
def optInt : Option V → Int → Option Int
  | none, d => some d
  | some (.int _ n), _ => some n
  | some _, _ => none
def opSlice (P : Program) (t : TypeId) (h : Heap) (x : V) (lo hi mx : Option V) : OR :=
  match mx with
  | some _ => .fail
  | none => match P.underlying t, x with
    | some (.slice e), .data sh rows => bif !(Nat.beq sh.length (szOf P e) && okT P e) then .fail else match optInt lo 0, optInt hi rows.length with
      | some a, some b => .if (decide (0 ≤ a) && decide (a ≤ b) && decide (b ≤ (rows.length : Int))) (.data sh ((rows.take b.toNat).drop a.toNat))
      | _, _ => .fail
    | some (.slice e), .vs k => match h.get k with
      | some bl => bif !(Nat.beq bl.sh.length (szOf P e) && okT P e) then .fail else match optInt lo 0, optInt hi bl.rows.length with
        | some a, some b => .if (decide (0 ≤ a) && decide (a ≤ b) && decide (b ≤ (bl.rows.length : Int)) && bl.vec) (.sub k a.toNat b.toNat)
        | _, _ => .fail
      | none => .fail
    | some (.slice e), .sub k l u => match h.get k with
      | some bl => bif !(Nat.beq bl.sh.length (szOf P e) && okT P e) then .fail else match optInt lo 0, optInt hi (u - l : Nat) with
        | some a, some b => .if (decide (0 ≤ a) && decide (a ≤ b) && decide (b ≤ ((u - l : Nat) : Int)) && bl.vec) (.sub k (l + a.toNat) (l + b.toNat))
        | _, _ => .fail
      | none => .fail
    | some .string, .str s => match optInt lo 0, optInt hi s.size with
      | some a, some b => .if (decide (0 ≤ a) && decide (a ≤ b) && decide (b ≤ (s.size : Int))) (.str (s.extract a.toNat b.toNat))
      | _, _ => .fail
    | _, _ => .fail
def bytesOfRows (rows : List (List V)) : ByteArray := ⟨(rows.map fun r => UInt8.ofNat ((r.headD .undef).toInt.toNat)).toArray⟩
def opConvert (P : Program) (src dst : TypeId) (h : Heap) (x : V) : OR :=
  match P.underlying src, P.underlying dst with
  | some (.int _), some (.int k) => match x with
    | .int _ n => .val (.int k (k.wrap n))
    | _ => .fail
  | some (.slice e), some .string => match P.underlying e with
    | some (.int .u8) => match V.pure h x with
      | .data [.int .u8] rows => .val (.str (bytesOfRows rows))
      | _ => .fail
    | _ => .fail
  | _, _ => .fail
def opLen (P : Program) (t : TypeId) (h : Heap) (x : V) : OR :=
  match P.underlying t with
  | some (.slice _) => match x with
    | .data _ rows => .val (.int .i64 rows.length)
    | .nils _ => .val (.int .i64 0)
    | .vs k => match h.get k with
      | some b => bif b.vec then .val (.int .i64 b.rows.length) else .fail
      | none => .fail
    | .sub k lo hi => match h.get k with
      | some b => bif b.vec then .val (.int .i64 (hi - lo : Nat)) else .fail
      | none => .fail
    | _ => .fail
  | some .string => match x with
    | .str s => .val (.int .i64 s.size)
    | _ => .fail
  | some (.array n _) => .val (.int .i64 n)
  | some (.map _ _) => match x with
    | .mdat rows => .val (.int .i64 rows.length)
    | _ => .fail
  | _ => .fail
def minL : IntKind → Int → List V → OR
  | k, x, [] => .val (.int k x)
  | k, x, .int _ y :: r => minL k (bif decide (y < x) then y else x) r
  | _, _, _ => .fail
def maxL : IntKind → Int → List V → OR
  | k, x, [] => .val (.int k x)
  | k, x, .int _ y :: r => maxL k (bif decide (y > x) then y else x) r
  | _, _, _ => .fail
def roomB : Int := 140737488355328
def roomOK (n b : Nat) : Bool := Nat.ble (n * b) 140737488355328
theorem roomOK_le {n b : Nat} : roomOK n b = true ↔ (n : Int) * (b : Int) ≤ roomB := by
  have e : (n : Int) * (b : Int) = ((n * b : Nat) : Int) := (Int.natCast_mul n b).symm
  have e2 : roomB = ((140737488355328 : Nat) : Int) := rfl
  unfold roomOK
  rw [Nat.ble_eq, e, e2, Int.ofNat_le]
def CK.plain : CK → Bool
  | .other => false
  | .mark => false
  | _ => true
def opAppend (P : Program) (t tx : TypeId) (h : Heap) (x y : V) (id : Nat) : OR :=
  let e := elemT P t
  let sh := ck P e
  match V.pure h y with
  | .data sh' new => bif CK.beqL sh sh' && slT P t && slT P tx && zeroOK P e && Nat.blt 0 (szOf P e) && Nat.blt 0 (bytesOfT P e) && sh.all CK.plain then (match x with
    | .vs k => match h.get k with
      | some b => bif CK.beqL sh b.sh && !b.fr && b.vec then
          ⟨roomOK (b.rows.length + new.length) (bytesOfT P e), .vs id, .app k ⟨true, sh, b.rows ++ new, false⟩, []⟩ else .fail
      | none => .fail
    | .nils _ => ⟨roomOK new.length (bytesOfT P e), .vs id, .new ⟨true, sh, new, false⟩, []⟩
    | _ => .fail) else .fail
  | _ => .fail
def ownOf (h : Heap) : V → Option (Nat × Nat × Nat × Blk)
  | .vs k => match h.get k with
    | some b => some (k, 0, b.rows.length, b)
    | none => none
  | .sub k lo hi => match h.get k with
    | some b => some (k, lo, hi - lo, b)
    | none => none
  | _ => none
def putRows : List (List V) → Nat → List (List V) → List (List V)
  | [], _, _ => []
  | rs, 0, [] => rs
  | _ :: rs, 0, n :: ns => n :: putRows rs 0 ns
  | r :: rs, k + 1, new => r :: putRows rs k new
def opCopy (P : Program) (t tx : TypeId) (h : Heap) (x y : V) : OR :=
  let e := elemT P t
  let sh := ck P e
  match V.pure h y, ownOf h x with
  | .data sh' new, some (k, lo, n, b) => ⟨CK.beqL sh sh' && CK.beqL sh b.sh && slT P t && slT P tx && Nat.beq (szOf P e) 1 && Nat.beq sh.length 1 && sh.all CK.plain && !b.fr && b.vec,
      .int .i64 (min new.length n : Nat), .put k { b with rows := putRows b.rows lo (new.take n) }, []⟩
  | _, _ => .fail
def V.eqs : V → V → Bool
  | .int k a, .int k' b => beqK k k' && (a == b)
  | .bool a, .bool b => a == b
  | .str a, .str b => a.toList == b.toList
  | _, _ => false
def V.eqsL : List V → List V → Bool
  | [], [] => true
  | a :: l, b :: r => V.eqs a b && V.eqsL l r
  | _, _ => false
def V.eqv : V → V → Bool
  | .agg l, .agg r => V.eqsL l r
  | a, b => V.eqs a b
def mapFind (key : V) : List (List V) → Option Nat
  | [] => none
  | r :: l => bif V.eqv key (r.headD .undef) then some 0 else (mapFind key l).map (· + 1)
def mapPut (rows : List (List V)) (key val : V) : List (List V) := match mapFind key rows with
  | some i => rows.set i [key, val]
  | none => rows ++ [[key, val]]
def mapDel (rows : List (List V)) (key : V) : List (List V) := match mapFind key rows with
  | some i => rows.eraseIdx i
  | none => rows
def mapHas (rows : List (List V)) (key : V) : Bool := (mapFind key rows).isSome
def mapGet (rows : List (List V)) (key zero : V) : V := match mapFind key rows with
  | some i => (rows.getD i []).getD 1 .undef
  | none => zero
def keyOK (P : Program) (kt : TypeId) (key : V) (rows : List (List V)) : Bool :=
  (eqT P 8 kt key key).isSome && rows.all fun r => match eqT P 8 kt key (r.headD .undef) with
    | some q => q == V.eqv key (r.headD .undef)
    | none => false
def mapT (P : Program) (t : TypeId) : Option (TypeId × TypeId) := match P.underlying t with
  | some (.map k e) => some (k, e)
  | _ => none
def opMakeMap (P : Program) (t : TypeId) (id : Nat) : OR := ⟨(mapT P t).isSome, .mp id, .new ⟨false, [.mark], [[.mdat []]], false⟩, []⟩
def opMapUpdate (P : Program) (t : TypeId) (h : Heap) (m key val : V) : OR :=
  match mapT P t, m with
  | some (kt, _), .mp k => match h.get k with
    | some b =>
      let kv := V.pure h key
      let vv := V.pure h val
      ⟨b.isMap && !b.fr && Nat.beq b.sh.length 1 && keyOK P kt kv b.ents && V.whole val && (V.refs key).isEmpty && !((deepRefs h [val]).any (Nat.beq k)), .undef, .put k { b with rows := [[.mdat (mapPut b.ents kv vv)]] }, deepRefs h [val]⟩
    | none => .fail
  | _, _ => .fail
def opDelete (P : Program) (t : TypeId) (h : Heap) (m key : V) : OR :=
  match mapT P t, m with
  | some (kt, _), .mp k => match h.get k with
    | some b =>
      let kv := V.pure h key
      ⟨b.isMap && !b.fr && Nat.beq b.sh.length 1 && keyOK P kt kv b.ents && (V.refs key).isEmpty, .tup [], .put k { b with rows := [[.mdat (mapDel b.ents kv)]] }, []⟩
    | none => .fail
  | _, _ => .fail
def entriesOf (h : Heap) : V → Option (List (List V))
  | .mp k => match h.get k with
    | some b => bif b.isMp then some b.ents else none
    | none => none
  | .mdat rows => some rows
  | _ => none
def V.isAgg : V → Bool
  | .agg _ => true
  | _ => false
def elemV (P : Program) (t : TypeId) (v : V) : OR :=
  match outV P t (typedL 0 (ck P t) (V.cells v)) with
  | ⟨c, u, _, _⟩ => ⟨c && holdsL (ck P t) (V.cells v) && (V.isAgg v == aggT P t), u, .none, []⟩
def zeroAgg (P : Program) (t : TypeId) : Bool := match (P.info? t).bind (·.zero) with
  | some (.agg _) => aggT P t
  | some _ => !aggT P t
  | none => false
def opLookup (P : Program) (t : TypeId) (h : Heap) (m key : V) (ok : Bool) : OR :=
  match mapT P t, entriesOf h m with
  | some (kt, et), some rows =>
    let kv := V.pure h key
    match outV P et (V.pureL [] (zeroV P et)) with
    | ⟨true, z, _, _⟩ =>
      .if ((elemV P et (mapGet rows kv z)).c && keyOK P kt kv rows && (V.refs key).isEmpty && zeroOK P et && zeroAgg P et)
        (bif ok then .tup [(elemV P et (mapGet rows kv z)).v, .bool (mapHas rows kv)] else (elemV P et (mapGet rows kv z)).v)
    | _ => .fail
  | _, _ => .fail
def opRange (P : Program) (t : TypeId) (x : V) (id : Nat) : OR := match x with
  | .mdat rows => bif (mapT P t).isSome && !Nat.beq t 0 then ⟨true, .ptr id 0 0, .new ⟨false, [.mark, .mark], [[.it t rows [], .undef]], false⟩, []⟩ else .fail
  | .str s => bif strT P t then ⟨true, .ptr id 0 0, .new ⟨false, [.mark, .mark], [[.it 0 [[.str s, .int .i64 0]] [], .undef]], false⟩, []⟩ else .fail
  | _ => .fail
def opNext (h : Heap) (x : V) : OR := match x with
  | .ptr k 0 0 => match h.get k with
    | some b => match b.rows with
      | [[.it 0 [[.str s, .int .i64 pos]] [], _]] =>
        bif b.isMap && Nat.beq b.sh.length 2 && !b.fr && decide (0 ≤ pos) then
          (bif Nat.blt pos.toNat s.size then ⟨true, .tup [.bool true, .int .i64 pos, .int .i32 (Utf8.decode s pos.toNat).1], .put k { b with rows := [[.it 0 [[.str s, .int .i64 ((pos.toNat + (Utf8.decode s pos.toNat).2 : Nat) : Int)]] [], .undef]] }, []⟩
            else .val (.tup [.bool false]))
        else .fail
      | _ => .fail
    | none => .fail
  | _ => .fail
def opEntry (P : Program) (h : Heap) (x : V) : OR := match x with
  | .ptr k 0 0 => match h.get k with
    | some b => match b.rows with
      | [[.it mt rows (i :: _), _]] => match mapT P mt with
        | some (kt, et) =>
          .if (b.isMap && Nat.beq b.sh.length 2 && Nat.blt i rows.length && (elemV P kt ((rows.getD i []).getD 0 .undef)).c && (elemV P et ((rows.getD i []).getD 1 .undef)).c)
            (.tup [(elemV P kt ((rows.getD i []).getD 0 .undef)).v, (elemV P et ((rows.getD i []).getD 1 .undef)).v])
        | none => .fail
      | _ => .fail
    | none => .fail
  | _ => .fail
mutual
def V.under (n : Nat) : V → Bool
  | .vs k => Nat.blt k n
  | .sub k _ _ => Nat.blt k n
  | .ptr k _ _ => Nat.blt k n
  | .mp k => Nat.blt k n
  | .agg cs => V.underL n cs
  | .tup cs => V.underL n cs
  | .fn _ cs => V.underL n cs
  | .gd _ _ _ => false
  | _ => true
def V.underL (n : Nat) : List V → Bool
  | [] => true
  | v :: r => V.under n v && V.underL n r
end
section
variable (P : Program)
def V.ofValue : Value → V
  | .int k n => .int k n
  | .bool b => .bool b
  | .string s => .str s
  | .pointer none => .nilp
  | .map none => .mdat []
  | .slice none 0 0 => .nils []
  | _ => .undef
def opD (o : Oper) (ev : Operand → V) (h : Heap) (id : Nat) : OR :=
  match o.op with
  | .move x | .assign x => match x with
    | .const (.slice none 0 0) => .val (.nils (ck P (elemT P o.type)))
    | x => .val (ev x)
  | .pick c a b => match ev c with
    | .bool q => V.sel q (ev a) (ev b)
    | _ => .fail
  | .alloc t => ⟨zeroOK P t, .ptr id 0 0, .new ⟨false, ck P t, [zeroV P t], false⟩, []⟩
  | .box t x => ⟨V.whole (ev x) && Nat.beq (V.cells (ev x)).length (szOf P t) && Nat.beq (ck P t).length (szOf P t), .ptr id 0 0, .new ⟨false, ck P t, [V.cells (ev x)], false⟩, []⟩
  | .build t parts => opBuild P t (parts.toList.map fun (i, x) => (i, ev x))
  | .buildSlice t len parts => opBuildSlice P t len (parts.toList.map fun (i, x) => (i, ev x)) h id
  | .load t a => opLoad P t h (ev a)
  | .store t a x => opStore P t h (ev a) (nilsTy P t (ev x))
  | .nilCheck x => match ev x with
    | .ptr k i j => .if (h.get k).isSome (.ptr k i j)
    | .pdat sh r j => .val (.pdat sh r j)
    | _ => .fail
  | .binOp op t x y _ => opBin P op t (ev x) (ev y)
  | .unOp op _ x => opUn op (ev x)
  | .convert s d x => opConvert P s d h (ev x)
  | .makeFunc (.func f) first caps => .if (Nat.beq first.size 0) (.fn f (caps.toList.map ev))
  | .makeSlice t l c => opMakeSlice P t (ev l) (ev c) id
  | .slice t x lo hi mx => opSlice P t h (ev x) (lo.map ev) (hi.map ev) (mx.map ev)
  | .fieldAddr s x f => opFieldAddr P s h (ev x) f
  | .field s x f => opField P s (ev x) f
  | .indexAddr t x ix => opIndexAddr P t h (ev x) (ev ix)
  | .index t x ix => opIndex P t (ev x) (ev ix)
  | .extract t ix => match ev t with
    | .tup vs => match vs[ix]? with
      | some v => .val v
      | none => .fail
    | _ => .fail
  | .call c => match c.callee with
    | .builtin .len => match c.args.toList with
      | [x] => (match c.argTypes.toList with
        | [t] => opLen P t h (ev x)
        | _ => .fail)
      | _ => .fail
    | .builtin .min => match c.args.toList.map ev with
      | .int k x :: r => minL k x r
      | _ => .fail
    | .builtin .max => match c.args.toList.map ev with
      | .int k x :: r => maxL k x r
      | _ => .fail
    | .builtin .append => match c.args.toList with
      | [x, y] => (match c.argTypes.toList with
        | [t, tx] => opAppend P t tx h (ev x) (ev y) id
        | _ => .fail)
      | _ => .fail
    | .builtin .copy => match c.args.toList with
      | [x, y] => (match c.argTypes.toList with
        | [t, tx] => opCopy P t tx h (ev x) (ev y)
        | _ => .fail)
      | _ => .fail
    | .builtin .delete => match c.args.toList with
      | [x, y] => (match c.argTypes.toList with
        | [t, _] => opDelete P t h (ev x) (ev y)
        | _ => .fail)
      | _ => .fail
    | _ => .fail
  | .makeMap t none => opMakeMap P t id
  | .mapUpdate t m k x => opMapUpdate P t h (ev m) (ev k) (ev x)
  | .lookup t m k ok => opLookup P t h (ev m) (ev k) ok
  | .range t x => opRange P t (ev x) id
  | .entry x => opEntry P h (ev x)
  | .next x true => opNext h (ev x)
  | _ => .fail
def Eff.run (id : Nat) : Eff → Heap → Heap
  | .none, h => h
  | .new b, h => h.ins id b
  | .put k b, h => h.ins k b
  | .app k b, h => (h.del k).ins id b
def putT (t : List V) : Option Tmp → V → List V
  | none, _ => t
  | some d, v => t.set d v
def evT (t : List V) (g : List (Nat × Bool)) : Operand → V
  | .tmp d => match t.getD d .undef with
    | .gd j w v => bif g.any (fun p => Nat.beq j p.1 && (w == p.2)) then v else .undef
    | v => v
  | .const v => V.ofValue v
  | .global _ => .undef
  | .func f => .fn f []
def tagOf : Operand → Bool → List (Nat × Bool)
  | .tmp d, w => [(d, w)]
  | _, _ => []
variable {R : Type} (callK : Nat → List V → (V → Option R) → Option R)
def isCall (o : Oper) : Option (Operand × List Operand) := match o.op with
  | .call c => match c.callee with
    | .value f => some (f, c.args.toList)
    | _ => none
  | _ => none
def loud (o : Oper) : Bool := match o.op with
  | .alloc _ | .box .. | .buildSlice .. | .makeSlice .. | .store .. | .convert .. | .slice .. => true
  | .makeMap .. | .mapUpdate .. | .range .. => true
  | .call _ => true
  | _ => false
def tmpOf (ops : List Oper) (j : Nat) : Option Nat := (ops[j]?).bind (·.dst)
def opV (o : Oper) (t : List V) (g : List (Nat × Bool)) (h : Heap) (id : Nat) : OR :=
  match o.op with
  | .pick c a b => match evT t g c with
    | .bool q => V.sel q (evT t (tagOf c true ++ g) a) (evT t (tagOf c false ++ g) b)
    | _ => .fail
  | _ => opD P o (evT t g) h id
def V.noGd : V → Bool
  | .gd _ _ _ => false
  | _ => true
def hasTag (d : Nat) : V → Bool
  | .gd j _ _ => Nat.beq j d
  | _ => false
def tagFree (G : List Nat) (t : List V) : Option Tmp → Bool
  | none => true
  | some d => V.noGd (t.getD d .undef) && (bif G.any (Nat.beq d) then !(t.any (hasTag d)) else true)
def guardsOf (ops : List Oper) : List Nat := ops.filterMap fun o => match o.guard with
  | some (j, _) => tmpOf ops j
  | none => none
def V.clean (v : V) : Bool := V.noGd v && (V.refs v).isEmpty
def call1 (o : Oper) (f : V) (args : List V) (s : St) (k : St → Option R) : Option R :=
  match f with
  | .fn f caps => callK f (V.pureL s.h (args ++ caps)) fun v =>
      bif V.clean v then k { s with t := putT s.t o.dst v, h := bif V.flat v then s.h else s.h.freeze (deepRefs s.h (args ++ caps)) } else none
  | _ => none
def op1 (id : Nat) (o : Oper) (g : List (Nat × Bool)) (s : St) (k : St → Option R) : Option R :=
  match isCall o with
  | some (f, args) => call1 callK o (evT s.t g f) (args.map (evT s.t g)) s k
  | none => match opV P o s.t g s.h id with
    | ⟨c, v, e, fz⟩ => bif c then (bif V.noGd v then k { s with t := putT s.t o.dst v, h := e.run id (s.h.freeze fz) } else none) else none
def loudG (ops : List Oper) (o : Oper) : Bool := loud o || (match o.dst with
  | some d => (guardsOf ops).any (Nat.beq d)
  | none => false)
def opK (ops : List Oper) (G : List Nat) (base i : Nat) (o : Oper) (s : St) (k : St → Option R) : Option R :=
  bif !tagFree G s.t o.dst then none else
  match o.guard with
  | none => op1 P callK (base + i) o [] s k
  | some (j, w) =>
    match tmpOf ops j with
    | none => none
    | some d => match evT s.t [] (.tmp d) with
      | .bool b =>
        bif loudG ops o then
          (bif (b == w) then op1 P callK (base + i) o [(d, w)] { s with t := s.t.set d (.bool w) } k
            else k { s with t := putT (s.t.set d (.bool (!w))) o.dst (.tup []) })
        else match opV P o s.t [(d, w)] s.h (base + i) with
          | ⟨c, v, .none, []⟩ => bif V.under base v then (bif (c || !(b == w)) then k { s with t := putT s.t o.dst (.gd d w v) } else none) else none
          | _ => none
      | .tup [] => k { s with t := putT s.t o.dst (.tup []) }
      | _ => none
def opsK (all : List Oper) (G : List Nat) (base : Nat) : Nat → List Oper → St → (St → Option R) → Option R
  | _, [], s, k => k s
  | i, o :: r, s, k => opK P callK all G base i o s fun s' => opsK all G base (i + 1) r s' k
def forget : List Bool → List V → List V
  | m :: l, v :: r => (bif m then (match v with | .gd _ _ _ => .undef | .tup [] => .undef | v => v) else .undef) :: forget l r
  | [], v :: r => (match v with | .gd _ _ _ => .undef | .tup [] => .undef | v => v) :: forget [] r
  | _, [] => []
def quietOp (o : Oper) : Bool := match o.op with
  | .store .. => false
  | .makeMap .. | .mapUpdate .. | .lookup .. | .range .. | .entry .. | .next .. => false
  | .call c => match c.callee with
    | .value _ => true
    | .builtin .len | .builtin .min | .builtin .max => true
    | _ => false
  | _ => true
def ptOp (o : Oper) : Bool := match o.op with
  | .move _ | .assign _ | .pick .. | .alloc _ | .box .. | .build .. | .binOp .. | .unOp .. | .makeFunc .. | .makeSlice .. | .field .. | .index .. | .extract .. => true
  | .call c => match c.callee with
    | .builtin .min | .builtin .max => true
    | _ => false
  | _ => false
def srOp (o : Oper) : Bool := match o.op with
  | .fieldAddr .. | .nilCheck _ | .indexAddr .. => true
  | .call c => match c.callee with
    | .builtin .len => true
    | _ => false
  | _ => false
def stOp (o : Oper) : Bool := match o.op with
  | .store .. => true
  | _ => false
def apOp (o : Oper) : Bool := match o.op with
  | .call c => match c.callee with
    | .builtin .append => true
    | _ => false
  | _ => false
def cpOp (o : Oper) : Bool := match o.op with
  | .call c => match c.callee with
    | .builtin .copy => true
    | _ => false
  | _ => false
def pairOK (a b : Oper) : Bool :=
  (quietOp a && quietOp b) || (ptOp a && (stOp b || cpOp b || apOp b)) || ((stOp a || cpOp a || apOp a) && ptOp b) || (srOp a && (stOp b || cpOp b)) || ((stOp a || cpOp a) && srOp b)
def tmpsOf (ops : List Oper) (o : Oper) : List Nat :=
  (o.op.operands.toList.filterMap fun | .tmp t => some t | _ => none) ++ (match o.guard with | some (j, _) => (tmpOf ops j).toList | none => [])
def apartB (ops : List Oper) (a b : Oper) : Bool :=
  (match a.dst with | some d => !(tmpsOf ops b).any (Nat.beq d) && !(b.dst.any (Nat.beq d)) | none => true) &&
  (match b.dst with | some d => !(tmpsOf ops a).any (Nat.beq d) | none => true)
def maskOf (acc : List Nat) : List Edge → Nat
  | [] => 0
  | e :: r => bif Region.binds .any e then (2 ^ e.on ||| acc.getD e.on 0) ||| maskOf acc r else maskOf acc r
def befores : List Oper → List Nat → List Nat
  | [], acc => acc
  | o :: r, acc => befores r (acc ++ [maskOf acc o.after.toList])
def rwOf (o : Oper) (t : List V) : Option Nat := match o.op with
  | .load _ (.tmp d) => (match t.getD d .undef with
    | .ptr k _ _ => some k
    | .gd _ _ (.ptr k _ _) => some k
    | _ => none)
  | .store _ (.tmp d) _ => (match t.getD d .undef with
    | .ptr k _ _ => some k
    | .gd _ _ (.ptr k _ _) => some k
    | _ => none)
  | _ => none
def ldOp (o : Oper) : Bool := match o.op with
  | .load _ (.tmp _) => true
  | _ => false
def neN : Option Nat → Option Nat → Bool
  | some a, some b => !(Nat.beq a b)
  | _, _ => true
def pairRW (a b : Oper) (ra rb : Option Nat) : Bool := ((ldOp a && stOp b) || (stOp a && ldOp b)) && neN ra rb
def okOrder1 (ops : List Oper) (m : Nat) (oj : Oper) (rj : Option Nat) : Nat → List (Oper × Option Nat) → Bool
  | _, [] => true
  | i, oi :: r => (Nat.testBit m i || ((pairOK oi.1 oj || pairRW oi.1 oj oi.2 rj) && apartB ops oi.1 oj)) && okOrder1 ops m oj rj (i + 1) r
def okOrderFrom (ops : List Oper) : List Nat → List (Oper × Option Nat) → List (Oper × Option Nat) → Bool
  | m :: bs, done, oj :: r => okOrder1 ops m oj.1 oj.2 0 done && okOrderFrom ops bs (done ++ [oj]) r
  | [], _, _ :: _ => false
  | _, _, [] => true
def backB : Nat → List Oper → Bool
  | _, [] => true
  | i, o :: r => o.after.toList.all (fun e => !Region.binds .any e || Nat.blt e.on i) && backB (i + 1) r
def okOrder (ops : List Oper) (rw : List (Option Nat)) : Bool := backB 0 ops && okOrderFrom ops (befores ops []) [] (ops.zip rw)
def opsKd {R : Type} (P : Program) (callK : Nat → List V → (V → Option R) → Option R) (all : List Oper) (G : List Nat) (base : Nat) : Nat → List Oper → List (Option Nat) → St → (St → List (Option Nat) → Option R) → Option R
  | _, [], rw, s, k => k s rw
  | i, o :: r, rw, s, k => opK P callK all G base i o s fun s' => opsKd P callK all G base (i + 1) r (rw ++ [rwOf o s.t]) s' k
def moved1 : V → V → List (Nat × Nat)
  | .vs a, .vs b => bif Nat.beq a b then [] else [(a, b)]
  | _, _ => []
def movedL : List V → List V → List (Nat × Nat)
  | a :: l, b :: r => moved1 a b ++ movedL l r
  | _, _ => []
def movedRows : List (List V) → List (List V) → List (Nat × Nat)
  | a :: l, b :: r => movedL a b ++ movedRows l r
  | _, _ => []
def movedH : Heap → Heap → List (Nat × Nat)
  | [], _ => []
  | (i, a) :: l, h => (bif a.vec then [] else (match h.get i with | some b => movedRows a.rows b.rows | none => [])) ++ movedH l h
def tidy : List (Nat × Nat) → List (Nat × Nat)
  | [] => []
  | p :: r => let q := tidy r
    bif q.any (fun x => Nat.beq x.1 p.1 || Nat.beq x.2 p.2) then q else p :: q
def srcOf (mv : List (Nat × Nat)) (k : Nat) : Option Nat := (mv.find? (fun p => Nat.beq p.1 k)).map (·.2)
def dstOf (mv : List (Nat × Nat)) (k : Nat) : Option Nat := (mv.find? (fun p => Nat.beq p.2 k)).map (·.1)
def homeV (n : Nat) (mv : List (Nat × Nat)) (v0 v : V) : V :=
  match v0 with
  | .undef => .undef
  | _ => match v with
    | .vs b => (match dstOf mv b with
      | some a => bif Nat.blt a n then .vs a else .undef
      | none => bif Nat.blt b n && (srcOf mv b).isNone then .vs b else .undef)
    | v => bif V.under n v && (V.refs v).all (fun k => (srcOf mv k).isNone && (dstOf mv k).isNone) then v else .undef
def homeL (n : Nat) (mv : List (Nat × Nat)) : List V → List V → List V
  | a :: l, b :: r => homeV n mv a b :: homeL n mv l r
  | _, _ => []
def homeRows (n : Nat) (mv : List (Nat × Nat)) : List (List V) → List (List V) → List (List V)
  | a :: l, b :: r => homeL n mv a b :: homeRows n mv l r
  | _, _ => []
def homeB (n : Nat) (mv : List (Nat × Nat)) (h : Heap) (i : Nat) (a : Blk) : Option Blk :=
  match h.get (match srcOf mv i with | some b => b | none => i) with
  | some b => bif (srcOf mv i).isNone && (dstOf mv i).isSome then none else
      (bif b.vec || b.isMap then some b else bif Nat.beq (homeRows n mv a.rows b.rows).length b.rows.length && (homeRows n mv a.rows b.rows).all (fun r => Nat.beq r.length b.sh.length) then some { b with rows := homeRows n mv a.rows b.rows } else none)
  | none => none
def homeH (n : Nat) (mv : List (Nat × Nat)) (h : Heap) : Heap → Heap
  | [] => []
  | (i, a) :: l => match homeB n mv h i a with
    | some b => (i, b) :: homeH n mv h l
    | none => homeH n mv h l
def St.home (s0 s : St) : St :=
  let mv := tidy (movedL s0.t s.t ++ movedH s0.h s.h)
  ⟨homeL s0.n mv s0.t s.t, homeH s0.n mv s.h s0.h, s0.n⟩
def thaw1 (s : St) (i : Nat) : St := match s.t[i]? with
  | some (.nils sh) => ⟨s.t.set i (.vs s.n), s.h.ins s.n ⟨true, sh, [], false⟩, s.n + 1⟩
  | _ => s
def thawC (s : St) (k j : Nat) : St := match s.h.get k with
  | some b => bif b.vec then s else (match b.rows with
    | [row] => (match row[j]? with
      | some (.nils sh) => ⟨s.t, (s.h.ins k { b with rows := [row.set j (.vs s.n)] }).ins s.n ⟨true, sh, [], false⟩, s.n + 1⟩
      | _ => s)
    | _ => s)
  | none => s
def cellsOf : Heap → List (Nat × Nat)
  | [] => []
  | (k, b) :: r => (bif b.vec then [] else (List.range b.sh.length).map fun j => (k, j)) ++ cellsOf r
def reach (h : Heap) : Nat → List Nat → List Nat
  | 0, ks => ks
  | n + 1, ks => reach h n (ks ++ ks.flatMap fun k => match h.get k with
    | some b => bif b.vec then [] else b.rows.flatMap V.refsL
    | none => [])
def Heap.keep : Heap → List Nat → Heap
  | [], _ => []
  | (i, b) :: r, ks => bif ks.any (Nat.beq i) then (i, b) :: Heap.keep r ks else Heap.keep r ks
def fnRefs : List V → List Nat
  | [] => []
  | .fn _ cs :: r => V.refsL cs ++ fnRefs r
  | _ :: r => fnRefs r
def St.gc (s : St) : St := ⟨s.t, (s.h.keep (reach s.h 3 (V.refsL s.t))).freeze (reach s.h 3 (fnRefs s.t)), s.n⟩
def St.thaw (s0 : St) : St :=
  let s := s0.gc
  let s1 := (List.range s.t.length).foldl thaw1 s
  (cellsOf s1.h).foldl (fun s p => thawC s p.1 p.2) s1
def St.up (s : St) (m : Nat) : St := ⟨s.t, s.h, bif Nat.blt s.n m then m else s.n⟩
def bitsL : Nat → Nat → Nat → List Bool
  | 0, _, _ => []
  | n + 1, i, m => Nat.testBit m i :: bitsL n (i + 1) m
def maskAt : List (Nat × Nat) → Nat → Nat
  | [], _ => 0
  | (i, m) :: r, k => bif Nat.beq i k then m else maskAt r k
def maskTab (n : Nat) (l : List (Nat × Nat)) (rid : Nat) : List Bool := bitsL n 0 (maskAt l rid)
structure Sorts where
  f : Nat → Bool
  k : Nat → Nat → List V → Option (Nat × (List Int → Bool) × (List Int → List Int → Int))
  hf : Nat → Bool
  hd : Nat → Nat → Heap → List V → Option V
def noSort : Sorts := ⟨fun _ => false, fun _ _ _ => none, fun _ => false, fun _ _ _ _ => none⟩
structure Env (R : Type) where
  P : Program
  callK : Nat → List V → (V → Option R) → Option R
  loopK : Nat → St → (St → Option R) → (Nat → St → Option R) → (V → Option R) → Option R
  res : List ResultVar
  mask : Nat → List Bool
  base : Nat → Nat
  srt : Sorts
def resV (P : Program) (s : St) : ResultVar → OR
  | .tmp t => .val (evT s.t [] (.tmp t))
  | .cell a t => opLoad P t s.h (evT s.t [] (.tmp a))
def resL (P : Program) (s : St) : List ResultVar → Option (List V)
  | [] => some []
  | r :: l => match resV P s r with
    | ⟨true, v, _, _⟩ => (match resL P s l with
      | some vs => some (v :: vs)
      | none => none)
    | _ => none
def retK {R : Type} (P : Program) (res : List ResultVar) (s : St) (kr : V → Option R) : Option R :=
  match resL P s res with
  | some [v] => kr (V.pure s.h v)
  | some vs => kr (.tup (V.pureL s.h vs))
  | none => none
open Classical in
noncomputable def agree {R : Type} (x y : Option R) : Option R := if x = y then x else none
theorem agree_some {R : Type} {x y : Option R} {r : R} (h : agree x y = some r) : x = some r ∧ y = some r := by
  unfold agree at h
  split at h
  · rename_i e; exact ⟨h, e ▸ h⟩
  · cases h
open Classical in
noncomputable def anyS {R : Type} (Q : List (List V) → Prop) (f : List (List V) → Option R) : Option R := if h : ∃ r, ∀ z, Q z → f z = some r then some h.choose else none
theorem anyS_some {R : Type} {Q : List (List V) → Prop} {f : List (List V) → Option R} {r : R} (h : anyS Q f = some r) : ∀ z, Q z → f z = some r := by
  unfold anyS at h
  split at h
  · rename_i hx
    cases h
    exact hx.choose_spec
  · cases h
def sortAt (f : Nat → Bool) (ops : List Oper) : Option (List Oper × Oper × Nat × Operand × Operand) := match ops.getLast? with
  | some o => match o.op, o.guard with
    | .call c, none => match c.callee, c.args.toList with
      | .value (.func sf), [x, y] => bif f sf then some (ops.dropLast, o, sf, x, y) else none
      | _, _ => none
    | _, _ => none
  | none => none
def sortedBy (cf : List Int → List Int → Int) (z : List (List V)) : Prop := z.Pairwise fun p q => ¬ cf (q.map V.toInt) (p.map V.toInt) < 0
noncomputable def sortStep {R : Type} (S : Sorts) (G : List Nat) (o : Oper) (sf : Nat) (x y : Operand) (s : St) (k : St → Option R) : Option R :=
  bif !tagFree G s.t o.dst then none else
  match evT s.t [] x, evT s.t [] y with
  | .vs kk, .fn g caps => match s.h.get kk, S.k sf g (V.pureL s.h caps) with
    | some b, some (c, dom, cf) => bif b.vec && !b.fr && CK.beqL b.sh (List.replicate c (.int .i64)) && Nat.blt 0 c && Nat.blt b.rows.length 4611686018427387904 && !((deepRefs s.h caps).any (Nat.beq kk)) && b.rows.all (fun r => dom (r.map V.toInt)) then
        anyS (fun z => z.Perm b.rows ∧ sortedBy cf z) fun z => k { s with t := putT s.t o.dst (.tup []), h := (s.h.freeze (deepRefs s.h caps)).ins kk { b with rows := z } }
      else none
    | _, _ => none
  | _, _ => none
def handAt (hf : Nat → Bool) : List Oper → Option (List Oper × Oper × Nat × List Operand × List Oper)
  | [] => none
  | o :: r => match (match o.op, o.guard with
      | .call c, none => match c.callee with
        | .value (.func sf) => bif hf sf then some (sf, c.args.toList) else none
        | _ => none
      | _, _ => none) with
    | some (sf, xs) => some ([], o, sf, xs, r)
    | none => match handAt hf r with
      | some (i, o', sf, xs, r') => some (o :: i, o', sf, xs, r')
      | none => none
def flatV (v : V) : V := bif V.flat v then v else .undef
def handStep {R : Type} (S : Sorts) (G : List Nat) (n : Nat) (o : Oper) (sf : Nat) (xs : List Operand) (s : St) (k : St → Option R) : Option R :=
  bif !tagFree G s.t o.dst then none else
  match S.hd sf n s.h (xs.map (evT s.t [])) with
  | some v => bif V.clean v then k { s with t := putT (s.t.map flatV) o.dst v, h := [] } else none
  | none => none
noncomputable def evalK {R : Type} (E : Env R) : Code → St → (St → Option R) → (Nat → St → Option R) → (V → Option R) → Option R
  | .skip, s, kn, _, _ => kn s
  | .label _, s, kn, _, _ => kn s
  | .region rid ops draw, s0, kn, _, _ =>
    let s := s0.up (E.base (2 * rid))
    bif draw then (bif sortedB s.h then
      opsKd E.P E.callK ops.toList (guardsOf ops.toList) s.n 0 ops.toList [] s fun s' rw => bif okOrder ops.toList rw then kn { t := forget (E.mask rid) s'.t, h := s'.h, n := s.n + ops.size } else none else none)
    else match handAt E.srt.hf ops.toList with
    | some (init, o, sf, xs, rest) => opsK E.P E.callK ops.toList (guardsOf ops.toList) s.n 0 init s fun s1 => handStep E.srt (guardsOf ops.toList) (s.n + ops.size) o sf xs s1 fun s2 => opsK E.P E.callK ops.toList (guardsOf ops.toList) s.n (init.length + 1) rest s2 fun s' => kn { t := forget (E.mask rid) s'.t, h := s'.h, n := s.n + ops.size }
    | none => match sortAt E.srt.f ops.toList with
      | none => opsK E.P E.callK ops.toList (guardsOf ops.toList) s.n 0 ops.toList s fun s' => kn { t := forget (E.mask rid) s'.t, h := s'.h, n := s.n + ops.size }
      | some (init, o, sf, x, y) => opsK E.P E.callK ops.toList (guardsOf ops.toList) s.n 0 init s fun s1 => sortStep E.srt (guardsOf ops.toList) o sf x y s1 fun s' => kn { t := forget (E.mask rid) s'.t, h := s'.h, n := s.n + ops.size }
  | .seq a b, s, kn, kx, kr => evalK E a s (fun s' => evalK E b s' kn kx kr) kx kr
  | .cond c a b, s, kn, kx, kr => match evT s.t [] c with
    | .bool q => bif q then evalK E a s kn kx kr else evalK E b s kn kx kr
    | .unk => agree (evalK E a s kn kx kr) (evalK E b s kn kx kr)
    | _ => none
  | .block id c, s, kn, kx, kr => match c with
    | .loop _ => E.loopK id (s.up (E.base (2 * id + 1))).thaw kn kx kr
    | c => evalK E c s (fun s' => kn (s.home s')) (fun i s' => bif Nat.beq i id then kn (s.home s') else kx i s') kr
  | .exit id, s, _, kx, _ => kx id s
  | .ret, s, _, _, kr => retK E.P E.res s kr
  | .scope c, s, kn, kx, kr => evalK E c s kn kx kr
  | _, _, _, _, _ => none
noncomputable def fnK {R : Type} (E : Env R) (fn : Func) (args : List V) (kr : V → Option R) : Option R :=
  match fn.body with
  | some c => evalK { E with res := fn.results.toList } c ⟨args ++ List.replicate (fn.ntmps - args.length) .undef, [], 0⟩ (fun s => retK E.P fn.results.toList s kr) (fun _ _ => none) kr
  | none => none
noncomputable def loopN {R : Type} (E : Env R) (id : Nat) (body : Code) (s0 : St) (kn : St → Option R) (kx : Nat → St → Option R) (kr : V → Option R) : Nat → St → Option R
  | 0, _ => none
  | n + 1, s => evalK E body s (fun s' => loopN E id body s0 kn kx kr n (s0.home s')) (fun i s' => bif Nat.beq i id then kn (s0.home s') else kx i s') kr
open Classical in
noncomputable def anyOf {R : Type} (U : List Nat) (f : Nat → Option R) : Option R := if h : ∃ r, ∀ i ∈ U, f i = some r then some h.choose else none
theorem anyOf_some {R : Type} {U : List Nat} {f : Nat → Option R} {r : R} (h : anyOf U f = some r) : ∀ i ∈ U, f i = some r := by
  unfold anyOf at h
  split at h
  · rename_i hx
    cases h
    exact hx.choose_spec
  · cases h
def leftI (n : Nat) (seen : List Nat) : List Nat := (List.range n).filter fun i => !seen.contains i
def restOf : Code → Code
  | .seq _ r => r
  | c => c
def rangeBody : Code → Option (Nat × Nat × Nat)
  | .seq (.region _ ops false) _ => match ops.toList with
    | [o1, o2] => match o1.op, o1.dst, o1.guard, o2.op, o2.dst, o2.guard with
      | .next (.tmp it) false, some tn, none, .extract (.tmp tn') 0, some tb, none => bif Nat.beq tn tn' && !Nat.beq it tn && !Nat.beq it tb && !Nat.beq tn tb then some (it, tn, tb) else none
      | _, _, _, _, _, _ => none
    | _ => none
  | _ => none
def advIt (s : St) (k : Nat) (b : Blk) (mt : Nat) (rows : List (List V)) (seen : List Nat) (tn tb : Nat) (q : Bool) : St :=
  ⟨(s.t.set tn .undef).set tb (.bool q), s.h.ins k { b with rows := [[.it mt rows seen, .undef]] }, s.n⟩
def rangeIt (s : St) (it tn : Nat) : Option (Nat × Blk × Nat × List (List V) × List Nat) := match s.t.getD it .undef with
  | .ptr k 0 0 => match s.h.get k with
    | some b => match b.rows with
      | [[.it mt rows seen, _]] => bif b.isMap && Nat.beq b.sh.length 2 && !b.fr && Nat.blt tn s.t.length && !Nat.beq mt 0 then some (k, b, mt, rows, seen) else none
      | _ => none
    | none => none
  | _ => none
noncomputable def rangeN {R : Type} (E : Env R) (id : Nat) (rest : Code) (it tn tb : Nat) (s0 : St) (kn : St → Option R) (kx : Nat → St → Option R) (kr : V → Option R) : Nat → St → Option R
  | 0, _ => none
  | n + 1, s => match rangeIt s it tn with
    | some (k, b, mt, rows, seen) => bif (leftI rows.length seen).isEmpty then
        evalK E rest (advIt s k b mt rows seen tn tb false) (fun _ => none) (fun i s' => bif Nat.beq i id then kn (s0.home s') else kx i s') kr
      else anyOf (leftI rows.length seen) fun i => evalK E rest (advIt s k b mt rows (i :: seen) tn tb true) (fun s' => rangeN E id rest it tn tb s0 kn kx kr n (s0.home s')) (fun i s' => bif Nat.beq i id then kn (s0.home s') else kx i s') kr
    | none => none
end
end Go.Vm
