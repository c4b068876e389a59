import Derived.Test.YtjekfokamcfffaaWM
set_option linter.unusedVariables false
set_option linter.unusedSimpArgs false
set_option maxRecDepth 100000
noncomputable section
namespace Go.Vm
open Go.Proofs
variable {R : Type}
noncomputable def fuel_D4_0 (c : Int) (d : Rows) (a b : Int) (e : SHeader) (f : SParams) (g : SView) (i : Rows) : Nat := Int.toNat (a - b) + 1
noncomputable def step_D4_0 (j : Int) (c : Rows) (e : Int) (m : SHeader) (o : SParams) (p : SView) (a : Int) (b : Rows) (again : Int -> Rows -> Option R) (kn : Int -> Rows -> Option R) : Option R := bif (decide (a < e)) then bif (inR a (List.length c)) then let f := List.getD c (Int.toNat a) []; let d := SBlockID.of f; bif (((keyOK Try.prog ty_api_BlockID (SBlockID.v d) b && true) && true) && true) then let g := mapPut b (SBlockID.v d) (V.int .i64 a); let i := IntKind.wrap .i64 (a + 1); again i g else none else none else kn a b
noncomputable def loop_D4_0 (a : Int) (b : Rows) (c : Int) (d : SHeader) (e : SParams) (f : SView) : Nat -> Int -> Rows -> (Int -> Rows -> Option R) -> Option R
  | 0, _, _, _ => none
  | n + 1, g, i, kn => step_D4_0 a b c d e f g i (fun j m => loop_D4_0 a b c d e f n j m kn) kn
noncomputable def shape_D4_0 : ST := ⟨.undef :: .undef :: .int .i64 :: .undef :: .ptr 0 0 0 :: .ptr 1 0 0 :: .undef :: .ptr 2 0 0 :: .undef :: .mp 4 :: unds 14 (.data SBlockID.sh :: .int .i64 :: .int .i64 :: unds 87 []), [(0, .var SHeader.sh false SHeader.ts), (1, .var SParams.sh false SParams.ts), (2, .var SView.sh false SView.ts), (4, .var [.mark] false [.mdat])], 12⟩
noncomputable def st_D4_0 (d : Int) (e : Rows) (f : Int) (b : SHeader) (a : SParams) (c : SView) (g : Int) (i : Rows) : St := shape_D4_0.put [.i d, .r e, .i f, .i g, .i b.Area.X0, .i b.Area.Y0, .i b.Area.X1, .i b.Area.Y1, .i b.TileW, .i b.TileH, .r b.Components, .i a.Kernel, .i a.Levels, .i a.Color, .i a.BlockX, .i a.BlockY, .r a.Precincts, .i a.Order, .i a.Layers, .b a.Mode.Bypass, .b a.Mode.Restart, .b a.Mode.Reset, .b a.Mode.Causal, .b a.Mode.Symbols, .b a.Divide, .b a.Sync, .b a.Fence, .r a.Steps, .i a.Dead, .i a.Shift, .i c.Layers, .i c.Drop, .i c.Window.X0, .i c.Window.Y0, .i c.Window.X1, .i c.Window.Y1, .r i]
noncomputable def hook_D4_0 : LoopG R := fun l kn _ _ => match l with
  | .i a :: .r b :: .i c :: .i S :: .i d :: .i e :: .i f :: .i g :: .i i :: .i j :: .r m :: .i o :: .i p :: .i q :: .i r :: .i s :: .r t :: .i u :: .i v :: .b w :: .b y :: .b z :: .b A :: .b B :: .b D :: .b E :: .b F :: .r H :: .i I :: .i J :: .i K :: .i L :: .i M :: .i N :: .i O :: .i Q :: .r U :: [] => loop_D4_0 a b c (SHeader.mk (SRect.mk d e f g) i j m) (SParams.mk o p q r s t u v (SMode.mk w y z A B) D E F H I J) (SView.mk K L (SRect.mk M N O Q)) (fuel_D4_0 a b c S (SHeader.mk (SRect.mk d e f g) i j m) (SParams.mk o p q r s t u v (SMode.mk w y z A B) D E F H I J) (SView.mk K L (SRect.mk M N O Q)) U) S U (fun W X => kn (st_D4_0 a b c (SHeader.mk (SRect.mk d e f g) i j m) (SParams.mk o p q r s t u v (SMode.mk w y z A B) D E F H I J) (SView.mk K L (SRect.mk M N O Q)) W X))
  | _ => none
noncomputable def fuel_D4_2 (c d : Int) (e : Rows) (a b : Int) (f : SHeader) (g : SParams) (i : SView) (j : Rows) (m : SRect) (o : Rows) : Nat := Int.toNat (a - b) + 1
noncomputable def step_D4_2 (g d : Int) (e : Rows) (i : Int) (j : SHeader) (b : SParams) (m : SView) (y : Rows) (o : SRect) (a : Int) (c : Rows) (again : Int -> Rows -> Option R) (kn : Int -> Rows -> Option R) : Option R := bif (decide (a < i)) then bif (inR a (List.length e)) then let p := List.getD e (Int.toNat a) []; let f := SComponent.of p; let q := m_F4 o f.DX f.DY; let r := m_F4 q d d; let s := m_B0 j g a; let t := IntKind.wrap .i64 (b.Levels - m.Drop); let u := m_F0 s b.Levels t r b.Kernel; bif (roomOK ((List.length c) + (1 : Nat)) 24) then let v := c ++ [[V.data SRect.sh u]]; let w := IntKind.wrap .i64 (a + 1); again w v else none else none else kn a c
noncomputable def loop_D4_2 (a b : Int) (c : Rows) (d : Int) (e : SHeader) (f : SParams) (g : SView) (i : Rows) (j : SRect) : Nat -> Int -> Rows -> (Int -> Rows -> Option R) -> Option R
  | 0, _, _, _ => none
  | n + 1, m, o, kn => step_D4_2 a b c d e f g i j m o (fun p q => loop_D4_2 a b c d e f g i j n p q kn) kn
noncomputable def shape_D4_2 : ST := ⟨.undef :: .undef :: .int .i64 :: .undef :: .ptr 0 0 0 :: .ptr 1 0 0 :: .undef :: .ptr 2 0 0 :: .undef :: .mp 4 :: .undef :: .undef :: .ptr 34 0 0 :: .int .i64 :: .vs 55 :: unds 38 (.data SComponent.sh :: .int .i64 :: .int .i64 :: unds 58 []), [(0, .var SHeader.sh false SHeader.ts), (1, .var SParams.sh false SParams.ts), (2, .var SView.sh false SView.ts), (4, .var [.mark] false [.mdat]), (34, .var SRect.sh false SRect.ts), (55, .vec [.sl SRect.sh] false)], 56⟩
noncomputable def st_D4_2 (e f : Int) (g : Rows) (i : Int) (b : SHeader) (a : SParams) (c : SView) (j : Rows) (d : SRect) (m : Int) (o : Rows) : St := shape_D4_2.put [.i e, .i f, .r g, .i i, .i m, .i b.Area.X0, .i b.Area.Y0, .i b.Area.X1, .i b.Area.Y1, .i b.TileW, .i b.TileH, .r b.Components, .i a.Kernel, .i a.Levels, .i a.Color, .i a.BlockX, .i a.BlockY, .r a.Precincts, .i a.Order, .i a.Layers, .b a.Mode.Bypass, .b a.Mode.Restart, .b a.Mode.Reset, .b a.Mode.Causal, .b a.Mode.Symbols, .b a.Divide, .b a.Sync, .b a.Fence, .r a.Steps, .i a.Dead, .i a.Shift, .i c.Layers, .i c.Drop, .i c.Window.X0, .i c.Window.Y0, .i c.Window.X1, .i c.Window.Y1, .r j, .i d.X0, .i d.Y0, .i d.X1, .i d.Y1, .r o]
noncomputable def hook_D4_2 : LoopG R := fun l kn _ _ => match l with
  | .i a :: .i b :: .r c :: .i d :: .i a0 :: .i e :: .i f :: .i g :: .i i :: .i j :: .i m :: .r o :: .i p :: .i q :: .i r :: .i s :: .i t :: .r u :: .i v :: .i w :: .b y :: .b z :: .b A :: .b B :: .b D :: .b E :: .b F :: .b H :: .r I :: .i J :: .i K :: .i L :: .i M :: .i N :: .i O :: .i Q :: .i S :: .r U :: .i W :: .i X :: .i Y :: .i Z :: .r a1 :: [] => loop_D4_2 a b c d (SHeader.mk (SRect.mk e f g i) j m o) (SParams.mk p q r s t u v w (SMode.mk y z A B D) E F H I J K) (SView.mk L M (SRect.mk N O Q S)) U (SRect.mk W X Y Z) (fuel_D4_2 a b c d a0 (SHeader.mk (SRect.mk e f g i) j m o) (SParams.mk p q r s t u v w (SMode.mk y z A B D) E F H I J K) (SView.mk L M (SRect.mk N O Q S)) U (SRect.mk W X Y Z) a1) a0 a1 (fun a2 a3 => kn (st_D4_2 a b c d (SHeader.mk (SRect.mk e f g i) j m o) (SParams.mk p q r s t u v w (SMode.mk y z A B D) E F H I J K) (SView.mk L M (SRect.mk N O Q S)) U (SRect.mk W X Y Z) a2 a3))
  | _ => none
noncomputable def fuel_D4_4 (c : Rows) (a b : Int) (d e : Rows) : Nat := Int.toNat (a - b) + 1
noncomputable def step_D4_4 (d : Rows) (g : Int) (e : Rows) (b : Int) (c : Rows) (again : Int -> Rows -> Option R) (kn : Int -> Rows -> Option R) : Option R := bif (decide (b < g)) then bif (inR b (List.length d)) then let i := List.getD d (Int.toNat b) []; let a := SBlockID.of i; bif (inR a.Comp (List.length e)) then let f := V.toRows (List.getD (List.getD e (Int.toNat a.Comp) []) 0 V.undef); bif (inR a.Band (List.length f)) then let j := List.getD f (Int.toNat a.Band) []; let m := SRect.of j; let o := m_C6 a.Rect m; let p := m_H2 o; bif p then bif (keyOK Try.prog ty_api_BlockID (SBlockID.v a) c && true) then let q := mapDel c (SBlockID.v a); let r := IntKind.wrap .i64 (b + 1); again r q else none else let s := IntKind.wrap .i64 (b + 1); again s c else none else none else none else kn b c
noncomputable def loop_D4_4 (a : Rows) (b : Int) (c : Rows) : Nat -> Int -> Rows -> (Int -> Rows -> Option R) -> Option R
  | 0, _, _, _ => none
  | n + 1, d, e, kn => step_D4_4 a b c d e (fun f g => loop_D4_4 a b c n f g kn) kn
noncomputable def shape_D4_4 : ST := ⟨unds 9 (.mp 4 :: unds 4 (.vs 55 :: unds 76 (.data SBlockID.sh :: .int .i64 :: .int .i64 :: unds 20 []))), [(4, .var [.mark] false [.mdat]), (55, .vec [.sl SRect.sh] false)], 104⟩
noncomputable def st_D4_4 (a : Rows) (b : Int) (c : Rows) (d : Int) (e : Rows) : St := shape_D4_4.put [.r a, .i b, .i d, .r e, .r c]
noncomputable def hook_D4_4 : LoopG R := fun l kn _ _ => match l with
  | .r a :: .i b :: .i d :: .r e :: .r c :: [] => loop_D4_4 a b c (fuel_D4_4 a b d e c) d e (fun f g => kn (st_D4_4 a b c f g))
  | _ => none
noncomputable def env_D4 : Env R := ⟨Try.prog, callCons 17 c_G6 (callCons 24 c_E7 (callCons 35 c_H2 (callCons 36 c_C6 (callCons 54 c_F4 (callCons 56 c_F0 (callCons 57 c_B0 callNil)))))), fun id => bif Nat.beq id 0 then loopAlt shape_D4_0 hook_D4_0 loopNil else (fun id => bif Nat.beq id 2 then loopAlt shape_D4_2 hook_D4_2 loopNil else (fun id => bif Nat.beq id 4 then loopAlt shape_D4_4 hook_D4_4 loopNil else (fun _ _ _ _ _ => none) id) id) id, Try.f25.results.toList, maskTab 114 [(0, 0xb4), (1, 0x2b4), (2, 0x70002b4), (3, 0xf0002b4), (4, 0x7000eb4), (5, 0x70002b4), (6, 0x70002b4), (7, 0x12b4), (8, 0x800000012b4), (9, 0x12b4), (10, 0x32b4), (11, 0x72b4), (12, 0xe00000000072b4), (13, 0x1e00000000072b4), (14, 0xe000000001f2b4), (15, 0xe000000002f2b4), (16, 0xe00000000072b4), (17, 0xe00000000072b4), (18, 0x380000000000000000004200), (19, 0x780000000000000000004200), (20, 0x380000000000000000084200), (21, 0x2000380000000000000000084200), (22, 0x380000000000000000004200), (23, 0x380000000000000000004200), (24, 0x100)], maskAt [(1, 12), (2, 4), (4, 6), (5, 55), (6, 16), (8, 17), (9, 104), (10, 23), (12, 27), (14, 29), (16, 36), (18, 40), (20, 45), (22, 50), (24, 51), (26, 59), (28, 60), (30, 66), (32, 77), (34, 96), (36, 98), (38, 108), (40, 109), (42, 113), (44, 126), (46, 129), (48, 131)]⟩
theorem step_D4_0_eq (a : Int) (b : Rows) (c : Int) (d : SHeader) (e : SParams) (f : SView) (j : Int) (m : Rows) (kn : St -> Option R) (kx : Nat -> St -> Option R) (kr : V -> Option R) (n : Nat) (o : Int) (p : Rows) :
    loopN env_D4 0 (loopAt Try.f25 0) (st_D4_0 a b c d e f j m) kn kx kr (n + 1) (st_D4_0 a b c d e f o p) =
    step_D4_0 a b c d e f o p (fun g i => loopN env_D4 0 (loopAt Try.f25 0) (st_D4_0 a b c d e f j m) kn kx kr n (st_D4_0 a b c d e f g i)) (fun g i => kn (st_D4_0 a b c d e f g i)) := by kernel_rfl
theorem loop_D4_0_eq (a : Int) (b : Rows) (c : Int) (d : SHeader) (e : SParams) (f : SView) (o : Int) (p : Rows) (kn : St -> Option R) (kx : Nat -> St -> Option R) (kr : V -> Option R) : ∀ (n : Nat) (g : Int) (i : Rows),
    loop_D4_0 a b c d e f n g i (fun j m => kn (st_D4_0 a b c d e f j m)) = loopN env_D4 0 (loopAt Try.f25 0) (st_D4_0 a b c d e f o p) kn kx kr n (st_D4_0 a b c d e f g i)
  | 0, _, _ => rfl
  | n + 1, g, i => by
    rw [step_D4_0_eq, loop_D4_0]
    congr 1
    funext j m
    exact loop_D4_0_eq a b c d e f o p kn kx kr n j m
theorem goodl_D4_0 {rest} (h : GoodL (R := R) env_D4 0 (loopAt Try.f25 0) rest) : GoodL (R := R) env_D4 0 (loopAt Try.f25 0) (loopAlt shape_D4_0 hook_D4_0 rest) := by
  refine goodL_alt (fun l kn kx kr r h => ?_) h
  unfold hook_D4_0 at h
  split at h
  · rename_i c d e a f g i j m o p q s t u v w y z A B D E F H I J K L M N O Q S U W b
    exact ⟨_, (loop_D4_0_eq c d e (SHeader.mk (SRect.mk f g i j) m o p) (SParams.mk q s t u v w y z (SMode.mk A B D E F) H I J K L M) (SView.mk N O (SRect.mk Q S U W)) a b kn kx kr _ a b).symm.trans h⟩
  · cases h
theorem step_D4_2_eq (a b : Int) (c : Rows) (d : Int) (e : SHeader) (f : SParams) (g : SView) (i : Rows) (j : SRect) (p : Int) (q : Rows) (kn : St -> Option R) (kx : Nat -> St -> Option R) (kr : V -> Option R) (n : Nat) (r : Int) (s : Rows) :
    loopN env_D4 2 (loopAt Try.f25 1) (st_D4_2 a b c d e f g i j p q) kn kx kr (n + 1) (st_D4_2 a b c d e f g i j r s) =
    step_D4_2 a b c d e f g i j r s (fun m o => loopN env_D4 2 (loopAt Try.f25 1) (st_D4_2 a b c d e f g i j p q) kn kx kr n (st_D4_2 a b c d e f g i j m o)) (fun m o => kn (st_D4_2 a b c d e f g i j m o)) := by kernel_rfl
theorem loop_D4_2_eq (a b : Int) (c : Rows) (d : Int) (e : SHeader) (f : SParams) (g : SView) (i : Rows) (j : SRect) (r : Int) (s : Rows) (kn : St -> Option R) (kx : Nat -> St -> Option R) (kr : V -> Option R) : ∀ (n : Nat) (m : Int) (o : Rows),
    loop_D4_2 a b c d e f g i j n m o (fun p q => kn (st_D4_2 a b c d e f g i j p q)) = loopN env_D4 2 (loopAt Try.f25 1) (st_D4_2 a b c d e f g i j r s) kn kx kr n (st_D4_2 a b c d e f g i j m o)
  | 0, _, _ => rfl
  | n + 1, m, o => by
    rw [step_D4_2_eq, loop_D4_2]
    congr 1
    funext p q
    exact loop_D4_2_eq a b c d e f g i j r s kn kx kr n p q
theorem goodl_D4_2 {rest} (h : GoodL (R := R) env_D4 2 (loopAt Try.f25 1) rest) : GoodL (R := R) env_D4 2 (loopAt Try.f25 1) (loopAlt shape_D4_2 hook_D4_2 rest) := by
  refine goodL_alt (fun l kn kx kr r h => ?_) h
  unfold hook_D4_2 at h
  split at h
  · rename_i c d e f a g i j m o p q s t u v w y z A B D E F H I J K L M N O Q S U W X Y Z a0 a1 a2 b
    exact ⟨_, (loop_D4_2_eq c d e f (SHeader.mk (SRect.mk g i j m) o p q) (SParams.mk s t u v w y z A (SMode.mk B D E F H) I J K L M N) (SView.mk O Q (SRect.mk S U W X)) Y (SRect.mk Z a0 a1 a2) a b kn kx kr _ a b).symm.trans h⟩
  · cases h
theorem step_D4_4_eq (a : Rows) (b : Int) (c : Rows) (f : Int) (g : Rows) (kn : St -> Option R) (kx : Nat -> St -> Option R) (kr : V -> Option R) (n : Nat) (i : Int) (j : Rows) :
    loopN env_D4 4 (loopAt Try.f25 2) (st_D4_4 a b c f g) kn kx kr (n + 1) (st_D4_4 a b c i j) =
    step_D4_4 a b c i j (fun d e => loopN env_D4 4 (loopAt Try.f25 2) (st_D4_4 a b c f g) kn kx kr n (st_D4_4 a b c d e)) (fun d e => kn (st_D4_4 a b c d e)) := by kernel_rfl
theorem loop_D4_4_eq (a : Rows) (b : Int) (c : Rows) (i : Int) (j : Rows) (kn : St -> Option R) (kx : Nat -> St -> Option R) (kr : V -> Option R) : ∀ (n : Nat) (d : Int) (e : Rows),
    loop_D4_4 a b c n d e (fun f g => kn (st_D4_4 a b c f g)) = loopN env_D4 4 (loopAt Try.f25 2) (st_D4_4 a b c i j) kn kx kr n (st_D4_4 a b c d e)
  | 0, _, _ => rfl
  | n + 1, d, e => by
    rw [step_D4_4_eq, loop_D4_4]
    congr 1
    funext f g
    exact loop_D4_4_eq a b c i j kn kx kr n f g
theorem goodl_D4_4 {rest} (h : GoodL (R := R) env_D4 4 (loopAt Try.f25 2) rest) : GoodL (R := R) env_D4 4 (loopAt Try.f25 2) (loopAlt shape_D4_4 hook_D4_4 rest) := by
  refine goodL_alt (fun l kn kx kr r h => ?_) h
  unfold hook_D4_4 at h
  split at h
  · rename_i c d a b e
    exact ⟨_, (loop_D4_4_eq c d e a b kn kx kr _ a b).symm.trans h⟩
  · cases h
theorem good_D4_0 : GoodLoop (R := R) env_D4 0 (loopAt Try.f25 0) := goodL_loop (g := loopAlt shape_D4_0 hook_D4_0 loopNil) (fun _ _ _ _ => rfl) (goodl_D4_0 goodL_nil)
theorem good_D4_2 : GoodLoop (R := R) env_D4 2 (loopAt Try.f25 1) := goodL_loop (g := loopAlt shape_D4_2 hook_D4_2 loopNil) (fun _ _ _ _ => rfl) (goodl_D4_2 goodL_nil)
theorem good_D4_4 : GoodLoop (R := R) env_D4 4 (loopAt Try.f25 2) := goodL_loop (g := loopAlt shape_D4_4 hook_D4_4 loopNil) (fun _ _ _ _ => rfl) (goodl_D4_4 goodL_nil)
noncomputable def spec_D4 (a : SHeader) (d : SParams) (c : Int) (b : SView) (k : V -> Option R) : Option R := let f := m_G6 a d c; let m := (((List.length f) : Nat) : Int); loop_D4_0 c f m a d b (fuel_D4_0 c f m 0 a d b []) 0 [] (fun H e => let o := m_E7 a; bif (inR c (List.length o)) then let B := List.getD o (Int.toNat c) []; let g := SRect.of B; let D := !((b.Window.X0 == 0) && ((b.Window.Y0 == 0) && ((b.Window.X1 == 0) && ((b.Window.Y1 == 0) && true)))); bif D then let p := m_C6 g b.Window; let q := IntKind.wrap .u64 b.Drop; bif (decide (0 <= q)) then let r := IntKind.wrap .i64 (1 * 2 ^ (min (Int.toNat q) 64)); let s := (((List.length a.Components) : Nat) : Int); loop_D4_2 c r a.Components s a d b e p (fuel_D4_2 c r a.Components s 0 a d b e p []) 0 [] (fun I t => let i := m_G6 a d c; let u := (((List.length i) : Nat) : Int); loop_D4_4 i u t (fuel_D4_4 i u 0 e t) 0 e (fun J E => k (V.mdat E))) else none else let v := IntKind.wrap .u64 b.Drop; bif (decide (0 <= v)) then let w := IntKind.wrap .i64 (1 * 2 ^ (min (Int.toNat v) 64)); let y := (((List.length a.Components) : Nat) : Int); loop_D4_2 c w a.Components y a d b e g (fuel_D4_2 c w a.Components y 0 a d b e g []) 0 [] (fun K z => let j := m_G6 a d c; let A := (((List.length j) : Nat) : Int); loop_D4_4 j A z (fuel_D4_4 j A 0 e z) 0 e (fun L F => k (V.mdat F))) else none else none)
abbrev av_D4 (a : SHeader) (b : SParams) (c : Int) (d : SView) : List V := [(SHeader.v a), (SParams.v b), V.int .i64 c, (SView.v d)]
theorem spec_D4_eq (a : SHeader) (b : SParams) (c : Int) (d : SView) (k : V -> Option R) : fnK env_D4 Try.f25 (av_D4 a b c d) k = spec_D4 a b c d k := by kernel_rfl
theorem mk_D4 (h_G6 : G_G6) (h_E7 : G_E7) (h_H2 : G_H2) (h_C6 : G_C6) (h_F4 : G_F4) (h_F0 : G_F0) (h_B0 : G_B0) (h : ∀ (a : SHeader) (b : SParams) (d : Int) (f : SView), pre_D4 a b d f = true -> Real (av_D4 a b d f) -> spec_D4 a b d f some = some (V.mdat (m_D4 a b d f))) : G_D4 := goodHook1 fun l hp => by
  unfold hp_D4 at hp
  split at hp
  · rename_i g i j m o p q r s t u v w y z A B D F H I J K L M N O Q S U W X Y
    exact fn_ok (fn := Try.f25) (c := bodyOf Try.f25) (E := env_D4) ⟨by kernel_rfl, (goodCons h_G6 (goodCons h_E7 (goodCons h_H2 (goodCons h_C6 (goodCons h_F4 (goodCons h_F0 (goodCons h_B0 goodNil))))))), rfl⟩ rfl (by kernel_rfl) (by kernel_rfl) (by kernel_rfl) (loopsOK_of _ (by have e : loopsOf (bodyOf Try.f25) = [(0, loopAt Try.f25 0), (2, loopAt Try.f25 1), (4, loopAt Try.f25 2)] := (by kernel_rfl); rw [e]; simp only [List.forall_mem_cons, List.not_mem_nil, false_implies, implies_true, and_true]; exact ⟨good_D4_0, good_D4_2, good_D4_4⟩)) (fun hr => (spec_D4_eq (SHeader.mk (SRect.mk g i j m) o p q) (SParams.mk r s t u v w y z (SMode.mk A B D F H) I J K L M N) O (SView.mk Q S (SRect.mk U W X Y)) some).trans (h (SHeader.mk (SRect.mk g i j m) o p q) (SParams.mk r s t u v w y z (SMode.mk A B D F H) I J K L M N) O (SView.mk Q S (SRect.mk U W X Y)) hp hr))
  · cases hp
noncomputable def fuel_D2_0 (c a : Rows) (b : List Nat) : Nat := List.length (leftI (List.length a) b) + 1
noncomputable def step_D2_0 (a : Rows) (c : Rows) (d : List Nat) (again : Rows -> List Nat -> Option R) (kn : Rows -> List Nat -> Option R) : Option R := bif List.isEmpty (leftI (List.length a) d) then kn c d else anyOf (leftI (List.length a) d) fun b => bif ((Nat.blt b (List.length a) && OR.c (elemV Try.prog ty_api_BlockID (List.getD (List.getD a b []) 0 V.undef))) && OR.c (elemV Try.prog ty_int (List.getD (List.getD a b []) 1 V.undef))) then let e := V.toInt (List.getD (V.cells (List.getD (List.getD a b []) 1 V.undef)) 0 V.undef); bif (inR e (List.length c)) then let f := List.set c (Int.toNat e) (setCells (List.getD c (Int.toNat e) []) 0 [V.bool true]); again f (b :: d) else none else none
noncomputable def loop_D2_0 (a : Rows) : Nat -> Rows -> List Nat -> (Rows -> List Nat -> Option R) -> Option R
  | 0, _, _, _ => none
  | n + 1, b, c, kn => step_D2_0 a b c (fun d e => loop_D2_0 a n d e kn) kn
noncomputable def shape_D2_0 : ST := ⟨unds 12 (.vs 36 :: unds 32 (.ptr 43 0 0 :: unds 8 [])), [(36, .vec [.bool] false), (43, .var [.mark, .mark] false [.it ty_map_api_BlockID_int, .undef])], 44⟩
noncomputable def st_D2_0 (a : Rows) (b : Rows) (c : List Nat) : St := shape_D2_0.put [.r b, .r a, .u c]
noncomputable def hook_D2_0 : LoopG R := fun l kn _ _ => match l with
  | .r b :: .r a :: .u c :: [] => loop_D2_0 a (fuel_D2_0 b a c) b c (fun d e => kn (st_D2_0 a d e))
  | _ => none
noncomputable def env_D2 : Env R := ⟨Try.prog, callCons 17 c_G6 (callCons 23 c_B7 (callCons 24 c_E7 (callCons 25 c_D4 callNil))), fun id => bif Nat.beq id 0 then loopAlt shape_D2_0 hook_D2_0 loopNil else (fun _ _ _ _ _ => none) id, Try.f13.results.toList, maskTab 54 [(0, 0x1f00000b4), (1, 0x1f00008b4), (2, 0x1f08008b4), (3, 0x300), (4, 0x2000000b4), (5, 0x300), (6, 0x10b4), (7, 0x200000001000), (8, 0xa00000001000), (9, 0x200000005000), (10, 0x200000001000), (11, 0x300)], maskAt [(1, 44), (2, 5), (4, 15), (6, 17), (8, 20), (10, 29), (12, 31), (14, 38), (16, 48), (18, 50), (20, 53), (22, 57)]⟩
theorem step_D2_0_eq (a : Rows) (d : Rows) (e : List Nat) (kn : St -> Option R) (kx : Nat -> St -> Option R) (kr : V -> Option R) (n : Nat) (f : Rows) (g : List Nat) :
    rangeN env_D2 0 (restOf (loopAt Try.f13 0)) 45 46 47 (st_D2_0 a d e) kn kx kr (n + 1) (st_D2_0 a f g) =
    step_D2_0 a f g (fun b c => rangeN env_D2 0 (restOf (loopAt Try.f13 0)) 45 46 47 (st_D2_0 a d e) kn kx kr n (st_D2_0 a b c)) (fun b c => kn (st_D2_0 a b c)) := by kernel_rfl
theorem loop_D2_0_eq (a : Rows) (f : Rows) (g : List Nat) (kn : St -> Option R) (kx : Nat -> St -> Option R) (kr : V -> Option R) : ∀ (n : Nat) (b : Rows) (c : List Nat),
    loop_D2_0 a n b c (fun d e => kn (st_D2_0 a d e)) = rangeN env_D2 0 (restOf (loopAt Try.f13 0)) 45 46 47 (st_D2_0 a f g) kn kx kr n (st_D2_0 a b c)
  | 0, _, _ => rfl
  | n + 1, b, c => by
    rw [step_D2_0_eq, loop_D2_0]
    congr 1
    funext d e
    exact loop_D2_0_eq a f g kn kx kr n d e
theorem goodl_D2_0 {rest} (h : GoodLR (R := R) env_D2 0 (loopAt Try.f13 0) 45 46 47 rest) : GoodLR (R := R) env_D2 0 (loopAt Try.f13 0) 45 46 47 (loopAlt shape_D2_0 hook_D2_0 rest) := by
  refine goodLR_alt (fun l kn kx kr r h => ?_) h
  unfold hook_D2_0 at h
  split at h
  · rename_i a c b
    exact ⟨_, (loop_D2_0_eq c a b kn kx kr _ a b).symm.trans h⟩
  · cases h
theorem good_D2_0 : GoodRange (R := R) env_D2 0 (loopAt Try.f13 0) := goodLR_loop (it := 45) (tn := 46) (tb := 47) (g := loopAlt shape_D2_0 hook_D2_0 loopNil) (by kernel_rfl) (fun _ _ _ _ => rfl) (goodl_D2_0 goodLR_nil)
noncomputable def spec_D2 (a : SHeader) (c : SParams) (d : Int) (e : SView) (k : V -> Option R) : Option R := bif (pre_B7 a c e) then let f := m_B7 a c e; bif (f.2 != 0) then k (V.tup [(V.data [.bool] []), V.int .i64 f.2]) else let j := decide (d < 0); bif (j == false) then let m := m_E7 a; let o := (((List.length m) : Nat) : Int); bif (decide (d >= o)) then k (V.tup [(V.data [.bool] []), (V.int .i64 14)]) else let p := m_G6 a c d; let b := (((List.length p) : Nat) : Int); bif (((((decide (0 <= b)) && (decide (b <= b))) && (decide ((b * 1) <= 140737488355328))) && (decide (b <= 140737488355328))) && true) then let g := List.replicate (Int.toNat b) [V.bool false]; bif (pre_D4 a c d e) then let i := m_D4 a c d e; loop_D2_0 i (fuel_D2_0 g i ([] : List Nat)) g ([] : List Nat) (fun q r => k (V.tup [(V.data [.bool] q), (V.int .i64 0)])) else none else none else k (V.tup [(V.data [.bool] []), (V.int .i64 14)]) else none
abbrev av_D2 (a : SHeader) (b : SParams) (c : Int) (d : SView) : List V := [(SHeader.v a), (SParams.v b), V.int .i64 c, (SView.v d)]
theorem spec_D2_eq (a : SHeader) (b : SParams) (c : Int) (d : SView) (k : V -> Option R) : fnK env_D2 Try.f13 (av_D2 a b c d) k = spec_D2 a b c d k := by kernel_rfl
theorem mk_D2 (h_G6 : G_G6) (h_B7 : G_B7) (h_E7 : G_E7) (h_D4 : G_D4) (h : ∀ (a : SHeader) (b : SParams) (d : Int) (f : SView), Real (av_D2 a b d f) -> spec_D2 a b d f some = some (V.tup [(V.data [.bool] (m_D2 a b d f).1), (V.int .i64 (m_D2 a b d f).2)])) : G_D2 := goodHook1 fun l hp => by
  unfold hp_D2 at hp
  split at hp
  · rename_i g i j m o p q r s t u v w y z A B D F H I J K L M N O Q S U W X Y
    exact fn_ok (fn := Try.f13) (c := bodyOf Try.f13) (E := env_D2) ⟨by kernel_rfl, (goodCons h_G6 (goodCons h_B7 (goodCons h_E7 (goodCons h_D4 goodNil)))), rfl⟩ rfl (by kernel_rfl) (by kernel_rfl) (by kernel_rfl) (loopsOK_any _ (by have e : loopsOf (bodyOf Try.f13) = [(0, loopAt Try.f13 0)] := (by kernel_rfl); rw [e]; simp only [List.forall_mem_cons, List.not_mem_nil, false_implies, implies_true, and_true]; exact (.inr good_D2_0))) (fun hr => (spec_D2_eq (SHeader.mk (SRect.mk g i j m) o p q) (SParams.mk r s t u v w y z (SMode.mk A B D F H) I J K L M N) O (SView.mk Q S (SRect.mk U W X Y)) some).trans (h (SHeader.mk (SRect.mk g i j m) o p q) (SParams.mk r s t u v w y z (SMode.mk A B D F H) I J K L M N) O (SView.mk Q S (SRect.mk U W X Y)) hr))
  · cases hp
noncomputable def fuel_E9_0 (c : Bool) (d : Rows) (a b : Int) (e : SView) (f : Rows) : Nat := Int.toNat (a - b) + 1
noncomputable def step_E9_0 (d : Bool) (c : Rows) (e : Int) (f : SView) (a : Int) (b : Rows) (again : Int -> Rows -> Option R) (kn : Int -> Rows -> Option R) : Option R := bif (decide (a < e)) then bif (inR a (List.length c)) then let g := List.getD c (Int.toNat a) []; let i := SRect.of g; bif (d == false) then let j := m_C6 i f.Window; let m := m_H2 j; bif (!m) then bif (roomOK ((List.length b) + (1 : Nat)) 8) then let o := b ++ [[V.int .i64 a]]; let p := IntKind.wrap .i64 (a + 1); again p o else none else let q := IntKind.wrap .i64 (a + 1); again q b else bif (roomOK ((List.length b) + (1 : Nat)) 8) then let r := b ++ [[V.int .i64 a]]; let s := IntKind.wrap .i64 (a + 1); again s r else none else none else kn a b
noncomputable def loop_E9_0 (a : Bool) (b : Rows) (c : Int) (d : SView) : Nat -> Int -> Rows -> (Int -> Rows -> Option R) -> Option R
  | 0, _, _, _ => none
  | n + 1, e, f, kn => step_E9_0 a b c d e f (fun g i => loop_E9_0 a b c d n g i kn) kn
noncomputable def shape_E9_0 : ST := ⟨unds 3 (.ptr 1 0 0 :: .undef :: .bool :: .vs 27 :: unds 20 (.data SRect.sh :: .int .i64 :: .int .i64 :: unds 19 [])), [(1, .var SView.sh false SView.ts), (27, .vec [.int .i64] false)], 28⟩
noncomputable def st_E9_0 (b : Bool) (c : Rows) (d : Int) (a : SView) (e : Int) (f : Rows) : St := shape_E9_0.put [.b b, .r c, .i d, .i e, .i a.Layers, .i a.Drop, .i a.Window.X0, .i a.Window.Y0, .i a.Window.X1, .i a.Window.Y1, .r f]
noncomputable def hook_E9_0 : LoopG R := fun l kn _ _ => match l with
  | .b a :: .r b :: .i c :: .i m :: .i d :: .i e :: .i f :: .i g :: .i i :: .i j :: .r o :: [] => loop_E9_0 a b c (SView.mk d e (SRect.mk f g i j)) (fuel_E9_0 a b c m (SView.mk d e (SRect.mk f g i j)) o) m o (fun p q => kn (st_E9_0 a b c (SView.mk d e (SRect.mk f g i j)) p q))
  | _ => none
noncomputable def env_E9 : Env R := ⟨Try.prog, callCons 24 c_E7 (callCons 33 c_C9 (callCons 34 c_H1 (callCons 35 c_H2 (callCons 36 c_C6 callNil)))), fun id => bif Nat.beq id 0 then loopAlt shape_E9_0 hook_E9_0 loopNil else (fun _ _ _ _ _ => none) id, Try.f15.results.toList, maskTab 49 [(0, 0x3f001fe000c), (1, 0x3f001fe002c), (2, 0x3f00200002c), (3, 0x10), (4, 0x3f00000006c), (5, 0x3f038000068), (6, 0x3f078000068), (7, 0x3f0380001e8), (8, 0x7f0380000e8), (9, 0x3f038000068), (10, 0x3f038000068), (11, 0x10)], maskAt [(1, 27), (2, 3), (4, 8), (6, 21), (8, 22), (10, 23), (12, 31), (14, 32), (16, 38), (18, 47), (20, 52), (22, 54)]⟩
theorem step_E9_0_eq (a : Bool) (b : Rows) (c : Int) (d : SView) (g : Int) (i : Rows) (kn : St -> Option R) (kx : Nat -> St -> Option R) (kr : V -> Option R) (n : Nat) (j : Int) (m : Rows) :
    loopN env_E9 0 (loopAt Try.f15 0) (st_E9_0 a b c d g i) kn kx kr (n + 1) (st_E9_0 a b c d j m) =
    step_E9_0 a b c d j m (fun e f => loopN env_E9 0 (loopAt Try.f15 0) (st_E9_0 a b c d g i) kn kx kr n (st_E9_0 a b c d e f)) (fun e f => kn (st_E9_0 a b c d e f)) := by kernel_rfl
theorem loop_E9_0_eq (a : Bool) (b : Rows) (c : Int) (d : SView) (j : Int) (m : Rows) (kn : St -> Option R) (kx : Nat -> St -> Option R) (kr : V -> Option R) : ∀ (n : Nat) (e : Int) (f : Rows),
    loop_E9_0 a b c d n e f (fun g i => kn (st_E9_0 a b c d g i)) = loopN env_E9 0 (loopAt Try.f15 0) (st_E9_0 a b c d j m) kn kx kr n (st_E9_0 a b c d e f)
  | 0, _, _ => rfl
  | n + 1, e, f => by
    rw [step_E9_0_eq, loop_E9_0]
    congr 1
    funext g i
    exact loop_E9_0_eq a b c d j m kn kx kr n g i
theorem goodl_E9_0 {rest} (h : GoodL (R := R) env_E9 0 (loopAt Try.f15 0) rest) : GoodL (R := R) env_E9 0 (loopAt Try.f15 0) (loopAlt shape_E9_0 hook_E9_0 rest) := by
  refine goodL_alt (fun l kn kx kr r h => ?_) h
  unfold hook_E9_0 at h
  split at h
  · rename_i c d e a f g i j m o b
    exact ⟨_, (loop_E9_0_eq c d e (SView.mk f g (SRect.mk i j m o)) a b kn kx kr _ a b).symm.trans h⟩
  · cases h
theorem good_E9_0 : GoodLoop (R := R) env_E9 0 (loopAt Try.f15 0) := goodL_loop (g := loopAlt shape_E9_0 hook_E9_0 loopNil) (fun _ _ _ _ => rfl) (goodl_E9_0 goodL_nil)
noncomputable def spec_E9 (c : SHeader) (a : SView) (k : V -> Option R) : Option R := let b := (a.Window.X0 == 0) && ((a.Window.Y0 == 0) && ((a.Window.X1 == 0) && ((a.Window.Y1 == 0) && true))); let i := m_C9 c; bif ((i != 0) == false) then bif ((!b) == true) then let j := m_H1 a.Window; bif (!j) then k (V.data [.int .i64] []) else let d := m_E7 c; let f := (((List.length d) : Nat) : Int); loop_E9_0 b d f a (fuel_E9_0 b d f 0 a []) 0 [] (fun p m => k (V.data [.int .i64] m)) else let e := m_E7 c; let g := (((List.length e) : Nat) : Int); loop_E9_0 b e g a (fuel_E9_0 b e g 0 a []) 0 [] (fun q o => k (V.data [.int .i64] o)) else k (V.data [.int .i64] [])
abbrev av_E9 (a : SHeader) (b : SView) : List V := [(SHeader.v a), (SView.v b)]
theorem spec_E9_eq (a : SHeader) (b : SView) (k : V -> Option R) : fnK env_E9 Try.f15 (av_E9 a b) k = spec_E9 a b k := by kernel_rfl
theorem mk_E9 (h_E7 : G_E7) (h_C9 : G_C9) (h_H1 : G_H1) (h_H2 : G_H2) (h_C6 : G_C6) (h : ∀ (a : SHeader) (b : SView), Real (av_E9 a b) -> spec_E9 a b some = some (V.data [.int .i64] (m_E9 a b))) : G_E9 := goodHook1 fun l hp => by
  unfold hp_E9 at hp
  split at hp
  · rename_i d f g i j m o p q r s t u
    exact fn_ok (fn := Try.f15) (c := bodyOf Try.f15) (E := env_E9) ⟨by kernel_rfl, (goodCons h_E7 (goodCons h_C9 (goodCons h_H1 (goodCons h_H2 (goodCons h_C6 goodNil))))), rfl⟩ rfl (by kernel_rfl) (by kernel_rfl) (by kernel_rfl) (loopsOK_of _ (by have e : loopsOf (bodyOf Try.f15) = [(0, loopAt Try.f15 0)] := (by kernel_rfl); rw [e]; simp only [List.forall_mem_cons, List.not_mem_nil, false_implies, implies_true, and_true]; exact good_E9_0)) (fun hr => (spec_E9_eq (SHeader.mk (SRect.mk d f g i) j m o) (SView.mk p q (SRect.mk r s t u)) some).trans (h (SHeader.mk (SRect.mk d f g i) j m o) (SView.mk p q (SRect.mk r s t u)) hr))
  · cases hp
noncomputable def fuel_I7_0 (c : Int) (d : Rows) (a b : Int) : Nat := Int.toNat (a - b) + 1
noncomputable def step_I7_0 (c : Rows) (d : Int) (b a : Int) (again : Int -> Int -> Option R) (kn : Int -> Int -> Option R) : Option R := bif (decide (a < d)) then bif (inR a (List.length c)) then let e := List.getD c (Int.toNat a) []; let f := V.toBool (List.getD e 0 V.undef); bif f then let g := IntKind.wrap .i64 (b + 1); let i := IntKind.wrap .i64 (a + 1); again g i else let j := IntKind.wrap .i64 (a + 1); again b j else none else kn b a
noncomputable def loop_I7_0 (a : Rows) (b : Int) : Nat -> Int -> Int -> (Int -> Int -> Option R) -> Option R
  | 0, _, _, _ => none
  | n + 1, c, d, kn => step_I7_0 a b c d (fun e f => loop_I7_0 a b n e f kn) kn
noncomputable def shape_I7_0 : ST := ⟨unds 3 (.int .i64 :: .undef :: .undef :: .data [.bool] :: .int .i64 :: .int .i64 :: unds 8 []), [], 5⟩
noncomputable def st_I7_0 (a : Rows) (b : Int) (c d : Int) : St := shape_I7_0.put [.i c, .r a, .i b, .i d]
noncomputable def hook_I7_0 : LoopG R := fun l kn _ _ => match l with
  | .i c :: .r a :: .i b :: .i d :: [] => loop_I7_0 a b (fuel_I7_0 c a b d) c d (fun e f => kn (st_I7_0 a b e f))
  | _ => none
noncomputable def env_I7 : Env R := ⟨Try.prog, callNil, fun id => bif Nat.beq id 0 then loopAlt shape_I7_0 hook_I7_0 loopNil else (fun _ _ _ _ _ => none) id, Try.f18.results.toList, maskTab 17 [(0, 0x1), (1, 0x9), (2, 0x1c8), (3, 0x3c8), (4, 0x1e8), (5, 0x11c8), (6, 0x1c8), (7, 0x1c8), (8, 0x4)], maskAt [(1, 5), (2, 1), (4, 2), (6, 9), (8, 10), (10, 13), (12, 14), (14, 17), (16, 19)]⟩
theorem step_I7_0_eq (a : Rows) (b : Int) (e f : Int) (kn : St -> Option R) (kx : Nat -> St -> Option R) (kr : V -> Option R) (n : Nat) (g i : Int) :
    loopN env_I7 0 (loopAt Try.f18 0) (st_I7_0 a b e f) kn kx kr (n + 1) (st_I7_0 a b g i) =
    step_I7_0 a b g i (fun c d => loopN env_I7 0 (loopAt Try.f18 0) (st_I7_0 a b e f) kn kx kr n (st_I7_0 a b c d)) (fun c d => kn (st_I7_0 a b c d)) := by kernel_rfl
theorem loop_I7_0_eq (a : Rows) (b : Int) (g i : Int) (kn : St -> Option R) (kx : Nat -> St -> Option R) (kr : V -> Option R) : ∀ (n : Nat) (c d : Int),
    loop_I7_0 a b n c d (fun e f => kn (st_I7_0 a b e f)) = loopN env_I7 0 (loopAt Try.f18 0) (st_I7_0 a b g i) kn kx kr n (st_I7_0 a b c d)
  | 0, _, _ => rfl
  | n + 1, c, d => by
    rw [step_I7_0_eq, loop_I7_0]
    congr 1
    funext e f
    exact loop_I7_0_eq a b g i kn kx kr n e f
theorem goodl_I7_0 {rest} (h : GoodL (R := R) env_I7 0 (loopAt Try.f18 0) rest) : GoodL (R := R) env_I7 0 (loopAt Try.f18 0) (loopAlt shape_I7_0 hook_I7_0 rest) := by
  refine goodL_alt (fun l kn kx kr r h => ?_) h
  unfold hook_I7_0 at h
  split at h
  · rename_i a c d b
    exact ⟨_, (loop_I7_0_eq c d a b kn kx kr _ a b).symm.trans h⟩
  · cases h
theorem good_I7_0 : GoodLoop (R := R) env_I7 0 (loopAt Try.f18 0) := goodL_loop (g := loopAlt shape_I7_0 hook_I7_0 loopNil) (fun _ _ _ _ => rfl) (goodl_I7_0 goodL_nil)
noncomputable def spec_I7 (a : Rows) (k : V -> Option R) : Option R := let b := (((List.length a) : Nat) : Int); loop_I7_0 a b (fuel_I7_0 0 a b 0) 0 0 (fun c d => k (V.int .i64 c))
abbrev av_I7 (a : Rows) : List V := [(V.data [.bool] a)]
theorem spec_I7_eq (a : Rows) (k : V -> Option R) : fnK env_I7 Try.f18 (av_I7 a) k = spec_I7 a k := by kernel_rfl
theorem mk_I7 (h : ∀ (a : Rows), pre_I7 a = true -> Real (av_I7 a) -> spec_I7 a some = some (V.int .i64 (m_I7 a))) : G_I7 := goodHook1 fun l hp => by
  unfold hp_I7 at hp
  split at hp
  · rename_i b
    exact fn_ok (fn := Try.f18) (c := bodyOf Try.f18) (E := env_I7) ⟨by kernel_rfl, goodNil, rfl⟩ rfl (by kernel_rfl) (by kernel_rfl) (by kernel_rfl) (loopsOK_of _ (by have e : loopsOf (bodyOf Try.f18) = [(0, loopAt Try.f18 0)] := (by kernel_rfl); rw [e]; simp only [List.forall_mem_cons, List.not_mem_nil, false_implies, implies_true, and_true]; exact good_I7_0)) (fun hr => (spec_I7_eq b some).trans (h b hp hr))
  · cases hp
noncomputable def env_J0 : Env R := ⟨Try.prog, callCons 13 c_D2 (callCons 15 c_E9 (callCons 18 c_I7 callNil)), fun _ _ _ _ _ => none, Try.f12.results.toList, maskTab 112 [(0, 0x7cf3c0079e739ce6600000000000), (1, 0x7cf3c0079e739ce6600000000002), (2, 0x7cf3c0079e739ce6600000000006), (3, 0x7cf3c0079e739ce660000000000e), (4, 0x7cf3c0079e739ce660000000003e), (5, 0x7cf3c0079e739ce66000000000fe), (6, 0x7cf3c0079e739ce66000000003fa), (7, 0x7cf3c0080000000000000000000a), (8, 0x1), (9, 0x7cf3c0000000000000000000000a), (10, 0x7cf3c0000000000000000000040a), (11, 0x1)], maskAt [(2, 1), (4, 7), (6, 11), (8, 15), (10, 24), (12, 35), (14, 44), (16, 86), (18, 87), (20, 91), (22, 96)]⟩
noncomputable def spec_J0 (k : V -> Option R) : Option R := let a := m_D2 (SHeader.mk (SRect.mk 0 0 16 16) 16 16 [[(V.int .i64 8), V.bool false, (V.int .i64 1), (V.int .i64 1)]]) (SParams.mk 2 1 0 2 2 [] 1 1 (SMode.mk false false false false false) false false false [[(V.int .i64 1)], [(V.int .i64 1)], [(V.int .i64 1)], [(V.int .i64 1)]] 16 0) 0 (SView.mk 0 0 (SRect.mk 4 4 6 6)); let c := m_D2 (SHeader.mk (SRect.mk 0 0 16 16) 16 16 [[(V.int .i64 8), V.bool false, (V.int .i64 1), (V.int .i64 1)]]) (SParams.mk 2 1 0 2 2 [] 1 1 (SMode.mk false false false false false) false false false [[(V.int .i64 1)], [(V.int .i64 1)], [(V.int .i64 1)], [(V.int .i64 1)]] 16 0) 0 (SView.mk 0 1 (SRect.mk 4 4 6 6)); let d := m_D2 (SHeader.mk (SRect.mk 0 0 16 16) 16 16 [[(V.int .i64 8), V.bool false, (V.int .i64 1), (V.int .i64 1)]]) (SParams.mk 2 1 0 2 2 [] 1 1 (SMode.mk false false false false false) false false false [[(V.int .i64 1)], [(V.int .i64 1)], [(V.int .i64 1)], [(V.int .i64 1)]] 16 0) 0 (SView.mk 0 0 (SRect.mk 0 0 0 0)); let j : Bool := (bif (a.2 != 0) then true else (c.2 != 0)); let m : Bool := (bif j then true else (d.2 != 0)); bif (m == false) then bif (pre_I7 a.1) then let o := m_I7 a.1; bif ((o != 4) == false) then bif (pre_I7 c.1) then let p := m_I7 c.1; bif ((p != 1) == false) then bif (pre_I7 d.1) then let q := m_I7 d.1; bif ((q != 16) == false) then let e := (((List.length a.1) : Nat) : Int); bif ((inR 0 (List.length a.1)) || !((e != 16) == false)) then let r := List.getD a.1 (0 : Nat) []; let s := V.toBool (List.getD r 0 V.undef); let f : Bool := (bif (e != 16) then true else (!s)); bif ((inR 4 (List.length a.1)) || !(f == false)) then let t := List.getD a.1 (4 : Nat) []; let u := V.toBool (List.getD t 0 V.undef); let v : Bool := (bif f then true else (!u)); bif v then k (V.bool false) else let b := m_E9 (SHeader.mk (SRect.mk 0 0 16 16) 8 8 [[(V.int .i64 8), V.bool false, (V.int .i64 1), (V.int .i64 1)]]) (SView.mk 0 0 (SRect.mk 7 0 9 1)); let g := (((List.length b) : Nat) : Int); bif ((inR 0 (List.length b)) || !((g == 2) == true)) then let w := List.getD b (0 : Nat) []; let y := V.toInt (List.getD w 0 V.undef); let i : Bool := (bif (g == 2) then (y == 0) else false); bif ((inR 1 (List.length b)) || !(i == true)) then let z := List.getD b (1 : Nat) []; let A := V.toInt (List.getD z 0 V.undef); let B : Bool := (bif i then (A == 1) else false); bif (B == true) then let D := m_E9 (SHeader.mk (SRect.mk 0 0 16 16) 8 8 [[(V.int .i64 8), V.bool false, (V.int .i64 1), (V.int .i64 1)]]) (SView.mk 0 0 (SRect.mk 4 4 6 6)); let E := (((List.length D) : Nat) : Int); k (V.bool (E == 1)) else k (V.bool false) else none else none else none else none else k (V.bool false) else none else k (V.bool false) else none else k (V.bool false) else none else k (V.bool false)
abbrev av_J0 : List V := []
theorem spec_J0_eq (k : V -> Option R) : fnK env_J0 Try.f12 (av_J0) k = spec_J0 k := by kernel_rfl
theorem mk_J0 (h_D2 : G_D2) (h_E9 : G_E9) (h_I7 : G_I7) (h : Real (av_J0) -> spec_J0 some = some (V.bool m_J0)) : G_J0 := goodHook1 fun l hp => by
  unfold hp_J0 at hp
  split at hp
  · skip
    exact fn_ok (fn := Try.f12) (c := bodyOf Try.f12) (E := env_J0) ⟨by kernel_rfl, (goodCons h_D2 (goodCons h_E9 (goodCons h_I7 goodNil))), rfl⟩ rfl (by kernel_rfl) (by kernel_rfl) (by kernel_rfl) (loopsOK_of _ (by have e : loopsOf (bodyOf Try.f12) = [] := (by kernel_rfl); rw [e]; intro p hp; cases hp)) (fun hr => (spec_J0_eq  some).trans (h hr))
  · cases hp
end Go.Vm
