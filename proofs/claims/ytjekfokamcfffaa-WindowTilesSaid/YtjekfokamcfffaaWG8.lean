import Derived.Test.YtjekfokamcfffaaWM
set_option linter.unusedVariables false
set_option linter.unusedSimpArgs false
set_option maxRecDepth 100000
noncomputable section
namespace Go.Vm
open Go.Proofs
variable {R : Type}
noncomputable def fuel_B1_0 (c d e : Rows) (a b : Int) (f : SL39_Place) (g i : Int) (j : SRect) : Nat := Int.toNat (a - b) + 1
noncomputable def step_B1_0 (b d e : Rows) (g : Int) (u : SL39_Place) (v w : Int) (y : SRect) (a : Int) (again : Int -> Option R) (kn : Int -> Option R) (kr : V -> Option R) : Option R := bif (decide (a < g)) then bif (inR a (List.length b)) then let i := List.getD b (Int.toNat a) []; let f := V.toBool (List.getD i 0 V.undef); bif ((inR a (List.length d)) || !(f == true)) then let j := List.getD d (Int.toNat a) []; let m := V.toBool (List.getD j 0 V.undef); let c : Bool := (bif f then (!m) else false); bif ((inR a (List.length b)) || !(c == false)) then let o := List.getD b (Int.toNat a) []; let p := V.toBool (List.getD o 0 V.undef); bif ((inR a (List.length e)) || !(c == false)) then let q := List.getD e (Int.toNat a) []; let r := V.toBool (List.getD q 0 V.undef); let s : Bool := (bif c then true else (!(p == r))); bif s then kr (V.bool false) else let t := IntKind.wrap .i64 (a + 1); again t else none else none else none else none else kn a
noncomputable def loop_B1_0 (a b c : Rows) (d : Int) (e : SL39_Place) (f g : Int) (i : SRect) : Nat -> Int -> (Int -> Option R) -> (V -> Option R) -> Option R
  | 0, _, _, _ => none
  | n + 1, j, kn, kr => step_B1_0 a b c d e f g i j (fun m => loop_B1_0 a b c d e f g i n m kn kr) kn kr
noncomputable def shape_B1_0 : ST := ⟨.undef :: .undef :: .ptr 0 0 0 :: .ptr 1 0 0 :: .undef :: .data [.bool] :: .undef :: .undef :: .data [.bool] :: unds 3 (.data [.bool] :: unds 120 (.int .i64 :: .int .i64 :: unds 51 [])), [(0, .var SL39_Place.sh false SL39_Place.ts), (1, .var SView.sh false SView.ts)], 137⟩
noncomputable def st_B1_0 (c d e : Rows) (f : Int) (a : SL39_Place) (g i : Int) (b : SRect) (j : Int) : St := shape_B1_0.put [.r c, .r d, .r e, .i f, .i j, .i a.Header.Area.X0, .i a.Header.Area.Y0, .i a.Header.Area.X1, .i a.Header.Area.Y1, .i a.Header.TileW, .i a.Header.TileH, .r a.Header.Components, .i a.Params.Kernel, .i a.Params.Levels, .i a.Params.Color, .i a.Params.BlockX, .i a.Params.BlockY, .r a.Params.Precincts, .i a.Params.Order, .i a.Params.Layers, .b a.Params.Mode.Bypass, .b a.Params.Mode.Restart, .b a.Params.Mode.Reset, .b a.Params.Mode.Causal, .b a.Params.Mode.Symbols, .b a.Params.Divide, .b a.Params.Sync, .b a.Params.Fence, .r a.Params.Steps, .i a.Params.Dead, .i a.Params.Shift, .i a.Tile, .i g, .i i, .i b.X0, .i b.Y0, .i b.X1, .i b.Y1]
noncomputable def hook_B1_0 : LoopG R := fun l kn _ kr => match l with
  | .r a :: .r b :: .r c :: .i d :: .i W :: .i e :: .i f :: .i g :: .i i :: .i j :: .i m :: .r o :: .i p :: .i q :: .i r :: .i s :: .i t :: .r u :: .i v :: .i w :: .b y :: .b z :: .b A :: .b B :: .b D :: .b E :: .b F :: .b H :: .r I :: .i J :: .i K :: .i L :: .i M :: .i N :: .i O :: .i Q :: .i S :: .i U :: [] => loop_B1_0 a b c d (SL39_Place.mk (SHeader.mk (SRect.mk e f g i) j m o) (SParams.mk p q r s t u v w (SMode.mk y z A B D) E F H I J K) L) M N (SRect.mk O Q S U) (fuel_B1_0 a b c d W (SL39_Place.mk (SHeader.mk (SRect.mk e f g i) j m o) (SParams.mk p q r s t u v w (SMode.mk y z A B D) E F H I J K) L) M N (SRect.mk O Q S U)) W (fun X => kn (st_B1_0 a b c d (SL39_Place.mk (SHeader.mk (SRect.mk e f g i) j m o) (SParams.mk p q r s t u v w (SMode.mk y z A B D) E F H I J K) L) M N (SRect.mk O Q S U) X)) kr
  | _ => none
noncomputable def fuel_B1_2 (c : Rows) (d : Bool) (e : Rows) (a b : Int) (f : SL39_Place) : Nat := Int.toNat (a - b) + 1
noncomputable def step_B1_2 (m b : Rows) (d : Int) (e : SL39_Place) (c : Bool) (a : Int) (again : Bool -> Int -> Option R) (kn : Bool -> Int -> Option R) : Option R := bif (decide (a < d)) then bif (inR a (List.length b)) then let f := List.getD b (Int.toNat a) []; let g := V.toInt (List.getD f 0 V.undef); let i : Bool := (bif c then true else (g == e.Tile)); let j := IntKind.wrap .i64 (a + 1); again i j else none else kn c a
noncomputable def loop_B1_2 (a b : Rows) (c : Int) (d : SL39_Place) : Nat -> Bool -> Int -> (Bool -> Int -> Option R) -> Option R
  | 0, _, _, _ => none
  | n + 1, e, f, kn => step_B1_2 a b c d e f (fun g i => loop_B1_2 a b c d n g i kn) kn
noncomputable def shape_B1_2 : ST := ⟨.undef :: .undef :: .ptr 0 0 0 :: .undef :: .undef :: .data [.bool] :: unds 10 (.bool :: unds 146 (.data [.int .i64] :: .int .i64 :: .int .i64 :: unds 20 [])), [(0, .var SL39_Place.sh false SL39_Place.ts)], 176⟩
noncomputable def st_B1_2 (b c : Rows) (d : Int) (a : SL39_Place) (e : Bool) (f : Int) : St := shape_B1_2.put [.r b, .b e, .r c, .i d, .i f, .i a.Header.Area.X0, .i a.Header.Area.Y0, .i a.Header.Area.X1, .i a.Header.Area.Y1, .i a.Header.TileW, .i a.Header.TileH, .r a.Header.Components, .i a.Params.Kernel, .i a.Params.Levels, .i a.Params.Color, .i a.Params.BlockX, .i a.Params.BlockY, .r a.Params.Precincts, .i a.Params.Order, .i a.Params.Layers, .b a.Params.Mode.Bypass, .b a.Params.Mode.Restart, .b a.Params.Mode.Reset, .b a.Params.Mode.Causal, .b a.Params.Mode.Symbols, .b a.Params.Divide, .b a.Params.Sync, .b a.Params.Fence, .r a.Params.Steps, .i a.Params.Dead, .i a.Params.Shift, .i a.Tile]
noncomputable def hook_B1_2 : LoopG R := fun l kn _ _ => match l with
  | .r a :: .b L :: .r b :: .i c :: .i M :: .i d :: .i e :: .i f :: .i g :: .i i :: .i j :: .r m :: .i o :: .i p :: .i q :: .i r :: .i s :: .r t :: .i u :: .i v :: .b w :: .b y :: .b z :: .b A :: .b B :: .b D :: .b E :: .b F :: .r H :: .i I :: .i J :: .i K :: [] => loop_B1_2 a b c (SL39_Place.mk (SHeader.mk (SRect.mk d e f g) i j m) (SParams.mk o p q r s t u v (SMode.mk w y z A B) D E F H I J) K) (fuel_B1_2 a L b c M (SL39_Place.mk (SHeader.mk (SRect.mk d e f g) i j m) (SParams.mk o p q r s t u v (SMode.mk w y z A B) D E F H I J) K)) L M (fun N O => kn (st_B1_2 a b c (SL39_Place.mk (SHeader.mk (SRect.mk d e f g) i j m) (SParams.mk o p q r s t u v (SMode.mk w y z A B) D E F H I J) K) N O))
  | _ => none
noncomputable def env_B1 : Env R := ⟨Try.prog, callCons 11 c_J9 (callCons 12 c_H6 (callCons 13 c_D6 (callCons 15 c_E5 (callCons 17 c_H3 (callCons 18 c_J0 callNil))))), fun id => bif Nat.beq id 0 then loopAlt shape_B1_0 hook_B1_0 loopNil else (fun id => bif Nat.beq id 2 then loopAlt shape_B1_2 hook_B1_2 loopNil else (fun _ _ _ _ _ => none) id) id, Try.f6.results.toList, maskTab 186 [(0, 0x13878003fe7c0079e79e79980000000000008000000000c), (1, 0x13878003fe7c0079e79e79980000000000008000100000c), (2, 0x10), (3, 0x13878003fe7c0079e79e79980000000000008000000006c), (4, 0x13878003fe7c0079e79e79980000000000008400000002c), (5, 0x10), (6, 0x13878003fe7c0079e79e7998000000000000000000000ac), (7, 0x13878003fe7c0079e79e7998000000000000000000000ac), (8, 0x13878003fe7c0079e79e7998000000000000000000003ac), (9, 0x13878003fe7c0079e79e7998000000000000000000003ac), (10, 0x13878003fe7c0079e79e799800000000000000000000f2c), (11, 0x13878003fe7c0079e79e799800000000000000000000f2c), (12, 0x13878003fe7c0079e79e799800000000000000000003f2c), (13, 0x13878003fe7c0079e79e799800000000000000000007f2c), (14, 0x13878003fe7c0080000000000000000000000000000112c), (15, 0x10), (16, 0x13878003fe7c0600000000000000000000000000000112c), (17, 0x13878003fe7c0e00000000000000000000000000000112c), (18, 0x13878003fe7c0600000000000000000000000000000912c), (19, 0x13878007fe7c0600000000000000000000000000000112c), (20, 0x10), (21, 0x13878003fe7c0600000000000000000000000000000112c), (22, 0x1387800000000000000000000000000000000000001002c), (23, 0x13878380000000000000000000000000000000000010024), (24, 0x13878780000000000000000000000000000000000010024), (25, 0x13878380000000000000000000000000000000000050024), (26, 0x13878380000000000000000000000000000000000010024), (27, 0x13878380000000000000000000000000000000000010024), (28, 0x10)], maskAt [(1, 137), (2, 3), (4, 9), (5, 176), (6, 11), (8, 24), (10, 26), (12, 33), (14, 36), (16, 41), (18, 54), (20, 56), (22, 69), (24, 71), (26, 84), (28, 93), (30, 133), (32, 134), (34, 141), (36, 142), (38, 144), (40, 166), (42, 167), (44, 169), (46, 170), (48, 180), (50, 181), (52, 184), (54, 192), (56, 194)]⟩
theorem step_B1_0_eq (a b c : Rows) (d : Int) (e : SL39_Place) (f g : Int) (i : SRect) (m : Int) (kn : St -> Option R) (kx : Nat -> St -> Option R) (kr : V -> Option R) (n : Nat) (o : Int) :
    loopN env_B1 0 (loopAt Try.f6 0) (st_B1_0 a b c d e f g i m) kn kx kr (n + 1) (st_B1_0 a b c d e f g i o) =
    step_B1_0 a b c d e f g i o (fun j => loopN env_B1 0 (loopAt Try.f6 0) (st_B1_0 a b c d e f g i m) kn kx kr n (st_B1_0 a b c d e f g i j)) (fun j => kn (st_B1_0 a b c d e f g i j)) kr := by kernel_rfl
theorem loop_B1_0_eq (a b c : Rows) (d : Int) (e : SL39_Place) (f g : Int) (i : SRect) (o : Int) (kn : St -> Option R) (kx : Nat -> St -> Option R) (kr : V -> Option R) : ∀ (n : Nat) (j : Int),
    loop_B1_0 a b c d e f g i n j (fun m => kn (st_B1_0 a b c d e f g i m)) kr = loopN env_B1 0 (loopAt Try.f6 0) (st_B1_0 a b c d e f g i o) kn kx kr n (st_B1_0 a b c d e f g i j)
  | 0, _ => rfl
  | n + 1, j => by
    rw [step_B1_0_eq, loop_B1_0]
    congr 1
    funext m
    exact loop_B1_0_eq a b c d e f g i o kn kx kr n m
theorem goodl_B1_0 {rest} (h : GoodL (R := R) env_B1 0 (loopAt Try.f6 0) rest) : GoodL (R := R) env_B1 0 (loopAt Try.f6 0) (loopAlt shape_B1_0 hook_B1_0 rest) := by
  refine goodL_alt (fun l kn kx kr r h => ?_) h
  unfold hook_B1_0 at h
  split at h
  · rename_i b c d e a f g i j m o p q s t u v w y z A B D E F H I J K L M N O Q S U W X
    exact ⟨_, (loop_B1_0_eq b c d e (SL39_Place.mk (SHeader.mk (SRect.mk f g i j) m o p) (SParams.mk q s t u v w y z (SMode.mk A B D E F) H I J K L M) N) O Q (SRect.mk S U W X) a kn kx kr _ a).symm.trans h⟩
  · cases h
theorem step_B1_2_eq (a b : Rows) (c : Int) (d : SL39_Place) (g : Bool) (i : Int) (kn : St -> Option R) (kx : Nat -> St -> Option R) (kr : V -> Option R) (n : Nat) (j : Bool) (m : Int) :
    loopN env_B1 2 (loopAt Try.f6 1) (st_B1_2 a b c d g i) kn kx kr (n + 1) (st_B1_2 a b c d j m) =
    step_B1_2 a b c d j m (fun e f => loopN env_B1 2 (loopAt Try.f6 1) (st_B1_2 a b c d g i) kn kx kr n (st_B1_2 a b c d e f)) (fun e f => kn (st_B1_2 a b c d e f)) := by kernel_rfl
theorem loop_B1_2_eq (a b : Rows) (c : Int) (d : SL39_Place) (j : Bool) (m : Int) (kn : St -> Option R) (kx : Nat -> St -> Option R) (kr : V -> Option R) : ∀ (n : Nat) (e : Bool) (f : Int),
    loop_B1_2 a b c d n e f (fun g i => kn (st_B1_2 a b c d g i)) = loopN env_B1 2 (loopAt Try.f6 1) (st_B1_2 a b c d j m) kn kx kr n (st_B1_2 a b c d e f)
  | 0, _, _ => rfl
  | n + 1, e, f => by
    rw [step_B1_2_eq, loop_B1_2]
    congr 1
    funext g i
    exact loop_B1_2_eq a b c d j m kn kx kr n g i
theorem goodl_B1_2 {rest} (h : GoodL (R := R) env_B1 2 (loopAt Try.f6 1) rest) : GoodL (R := R) env_B1 2 (loopAt Try.f6 1) (loopAlt shape_B1_2 hook_B1_2 rest) := by
  refine goodL_alt (fun l kn kx kr r h => ?_) h
  unfold hook_B1_2 at h
  split at h
  · rename_i c a d e b f g i j m o p q s t u v w y z A B D E F H I J K L M N
    exact ⟨_, (loop_B1_2_eq c d e (SL39_Place.mk (SHeader.mk (SRect.mk f g i j) m o p) (SParams.mk q s t u v w y z (SMode.mk A B D E F) H I J K L M) N) a b kn kx kr _ a b).symm.trans h⟩
  · cases h
theorem good_B1_0 : GoodLoop (R := R) env_B1 0 (loopAt Try.f6 0) := goodL_loop (g := loopAlt shape_B1_0 hook_B1_0 loopNil) (fun _ _ _ _ => rfl) (goodl_B1_0 goodL_nil)
theorem good_B1_2 : GoodLoop (R := R) env_B1 2 (loopAt Try.f6 1) := goodL_loop (g := loopAlt shape_B1_2 hook_B1_2 loopNil) (fun _ _ _ _ => rfl) (goodl_B1_2 goodL_nil)
noncomputable def spec_B1 (a : SL39_Place) (b : SView) (k : V -> Option R) : Option R := let o := m_J9 a.Header a.Params; bif (!o) then let p := m_H6; k (V.bool p) else let c := m_D6 a.Header a.Params a.Tile b; bif (c.2 != 0) then let q := (((List.length c.1) : Nat) : Int); bif ((q == 0) == true) then let r := m_H6; k (V.bool r) else k (V.bool false) else let e := m_D6 a.Header a.Params a.Tile (SView.mk 0 b.Drop (SRect.mk 0 0 0 0)); let f := m_D6 a.Header a.Params a.Tile (SView.mk 0 0 (SRect.mk 0 0 0 0)); let g := m_D6 a.Header a.Params a.Tile (SView.mk 0 b.Drop b.Window); let s := m_H3 a.Header a.Params a.Tile; let d := (((List.length s) : Nat) : Int); let t : Bool := (bif (e.2 != 0) then true else (f.2 != 0)); let u : Bool := (bif t then true else (g.2 != 0)); bif (u == false) then let v := (((List.length c.1) : Nat) : Int); bif ((v != d) == false) then let w := (((List.length e.1) : Nat) : Int); bif ((w != d) == false) then let y := (((List.length g.1) : Nat) : Int); bif ((y != d) == false) then bif (pre_J0 f.1) then let z := m_J0 f.1; bif ((z != d) == false) then let A := (((List.length f.1) : Nat) : Int); bif (A != d) then k (V.bool false) else let j := (((List.length c.1) : Nat) : Int); loop_B1_0 c.1 e.1 g.1 j a 0 b.Drop b.Window (fuel_B1_0 c.1 e.1 g.1 j 0 a 0 b.Drop b.Window) 0 (fun H => let i := m_E5 a.Header (SView.mk 0 b.Drop b.Window); let m := (((List.length i) : Nat) : Int); loop_B1_2 c.1 i m a (fuel_B1_2 c.1 false i m 0 a) false 0 (fun B I => bif (B == false) then bif (pre_J0 c.1) then let D := m_J0 c.1; bif ((D == 0) == true) then let E := m_H6; k (V.bool E) else k (V.bool false) else none else let F := m_H6; k (V.bool F))) k else k (V.bool false) else none else k (V.bool false) else k (V.bool false) else k (V.bool false) else k (V.bool false)
abbrev av_B1 (a : SL39_Place) (b : SView) : List V := [(SL39_Place.v a), (SView.v b)]
theorem spec_B1_eq (a : SL39_Place) (b : SView) (k : V -> Option R) : fnK env_B1 Try.f6 (av_B1 a b) k = spec_B1 a b k := by kernel_rfl
theorem mk_B1 (h_J9 : G_J9) (h_H6 : G_H6) (h_D6 : G_D6) (h_E5 : G_E5) (h_H3 : G_H3) (h_J0 : G_J0) (h : ∀ (a : SL39_Place) (b : SView), Real (av_B1 a b) -> spec_B1 a b some = some (V.bool (m_B1 a b))) : G_B1 := goodHook1 fun l hp => by
  unfold hp_B1 at hp
  split at hp
  · rename_i d f g i j m o p q r s t u v w y z A B D F H I J K L M N O Q S U W
    exact fn_ok (fn := Try.f6) (c := bodyOf Try.f6) (E := env_B1) ⟨by kernel_rfl, (goodCons h_J9 (goodCons h_H6 (goodCons h_D6 (goodCons h_E5 (goodCons h_H3 (goodCons h_J0 goodNil)))))), rfl⟩ rfl (by kernel_rfl) (by kernel_rfl) (by kernel_rfl) (loopsOK_of _ (by have e : loopsOf (bodyOf Try.f6) = [(0, loopAt Try.f6 0), (2, loopAt Try.f6 1)] := (by kernel_rfl); rw [e]; simp only [List.forall_mem_cons, List.not_mem_nil, false_implies, implies_true, and_true]; exact ⟨good_B1_0, good_B1_2⟩)) (fun hr => (spec_B1_eq (SL39_Place.mk (SHeader.mk (SRect.mk d f g i) j m o) (SParams.mk p q r s t u v w (SMode.mk y z A B D) F H I J K L) M) (SView.mk N O (SRect.mk Q S U W)) some).trans (h (SL39_Place.mk (SHeader.mk (SRect.mk d f g i) j m o) (SParams.mk p q r s t u v w (SMode.mk y z A B D) F H I J K L) M) (SView.mk N O (SRect.mk Q S U W)) hr))
  · cases hp
noncomputable def fuel_H8_0 (a : Rows) (b : Int) (d : SView) (e : Rows) : Nat := let c := (((List.length a) : Nat) : Int); Int.toNat (c - b) + 1
noncomputable def step_H8_0 (d : Rows) (c : SView) (a : Int) (b : Rows) (again : Int -> Rows -> Option R) (kn : Int -> Rows -> Option R) : Option R := let f := (((List.length d) : Nat) : Int); bif (decide (a < f)) then let e := (c.Window.X0 == 0) && ((c.Window.Y0 == 0) && ((c.Window.X1 == 0) && ((c.Window.Y1 == 0) && true))); bif ((inR a (List.length d)) || !(e == false)) then let g := List.getD d (Int.toNat a) []; let i := SRect.of g; bif (e == false) then let j := m_D2 i c.Window; let m := m_I8 j; bif (!m) then bif (roomOK ((List.length b) + (1 : Nat)) 8) then let o := b ++ [[V.int .i64 a]]; let p := IntKind.wrap .i64 (a + 1); again p o else none else let q := IntKind.wrap .i64 (a + 1); again q b else bif (roomOK ((List.length b) + (1 : Nat)) 8) then let r := b ++ [[V.int .i64 a]]; let s := IntKind.wrap .i64 (a + 1); again s r else none else none else kn a b
noncomputable def loop_H8_0 (a : Rows) (b : SView) : Nat -> Int -> Rows -> (Int -> Rows -> Option R) -> Option R
  | 0, _, _, _ => none
  | n + 1, c, d, kn => step_H8_0 a b c d (fun e f => loop_H8_0 a b n e f kn) kn
noncomputable def shape_H8_0 : ST := ⟨unds 3 (.ptr 1 0 0 :: .undef :: .vs 3 :: .data SRect.sh :: .int .i64 :: unds 39 []), [(1, .var SView.sh false SView.ts), (3, .vec [.int .i64] false)], 20⟩
noncomputable def st_H8_0 (b : Rows) (a : SView) (c : Int) (d : Rows) : St := shape_H8_0.put [.r b, .i c, .i a.Layers, .i a.Drop, .i a.Window.X0, .i a.Window.Y0, .i a.Window.X1, .i a.Window.Y1, .r d]
noncomputable def hook_H8_0 : LoopG R := fun l kn _ _ => match l with
  | .r a :: .i i :: .i b :: .i c :: .i d :: .i e :: .i f :: .i g :: .r j :: [] => loop_H8_0 a (SView.mk b c (SRect.mk d e f g)) (fuel_H8_0 a i (SView.mk b c (SRect.mk d e f g)) j) i j (fun m o => kn (st_H8_0 a (SView.mk b c (SRect.mk d e f g)) m o))
  | _ => none
noncomputable def env_H8 : Env R := ⟨Try.prog, callCons 19 c_G8 (callCons 20 c_I7 (callCons 31 c_I8 (callCons 32 c_D2 (callCons 37 c_I1 callNil)))), fun id => bif Nat.beq id 0 then loopAlt shape_H8_0 hook_H8_0 loopNil else (fun _ _ _ _ _ => none) id, Try.f16.results.toList, maskTab 47 [(0, 0x1ff0001e00c), (1, 0x1ff0001e02c), (2, 0x1ff0002002c), (3, 0x10), (4, 0x1ff00000068), (5, 0x1ff000000e8), (6, 0x1ff010000e8), (7, 0x1ff000000e8), (8, 0x3ff000000e8), (9, 0x1ff000000e8), (10, 0x10)], maskAt [(1, 20), (2, 3), (4, 5), (6, 14), (8, 16), (10, 19), (12, 24), (14, 48), (16, 28), (18, 43), (20, 51)]⟩
theorem step_H8_0_eq (a : Rows) (b : SView) (e : Int) (f : Rows) (kn : St -> Option R) (kx : Nat -> St -> Option R) (kr : V -> Option R) (n : Nat) (g : Int) (i : Rows) :
    loopN env_H8 0 (loopAt Try.f16 0) (st_H8_0 a b e f) kn kx kr (n + 1) (st_H8_0 a b g i) =
    step_H8_0 a b g i (fun c d => loopN env_H8 0 (loopAt Try.f16 0) (st_H8_0 a b e f) kn kx kr n (st_H8_0 a b c d)) (fun c d => kn (st_H8_0 a b c d)) := by kernel_rfl
theorem loop_H8_0_eq (a : Rows) (b : SView) (g : Int) (i : Rows) (kn : St -> Option R) (kx : Nat -> St -> Option R) (kr : V -> Option R) : ∀ (n : Nat) (c : Int) (d : Rows),
    loop_H8_0 a b n c d (fun e f => kn (st_H8_0 a b e f)) = loopN env_H8 0 (loopAt Try.f16 0) (st_H8_0 a b g i) kn kx kr n (st_H8_0 a b c d)
  | 0, _, _ => rfl
  | n + 1, c, d => by
    rw [step_H8_0_eq, loop_H8_0]
    congr 1
    funext e f
    exact loop_H8_0_eq a b g i kn kx kr n e f
theorem goodl_H8_0 {rest} (h : GoodL (R := R) env_H8 0 (loopAt Try.f16 0) rest) : GoodL (R := R) env_H8 0 (loopAt Try.f16 0) (loopAlt shape_H8_0 hook_H8_0 rest) := by
  refine goodL_alt (fun l kn kx kr r h => ?_) h
  unfold hook_H8_0 at h
  split at h
  · rename_i c a d e f g i j b
    exact ⟨_, (loop_H8_0_eq c (SView.mk d e (SRect.mk f g i j)) a b kn kx kr _ a b).symm.trans h⟩
  · cases h
theorem good_H8_0 : GoodLoop (R := R) env_H8 0 (loopAt Try.f16 0) := goodL_loop (g := loopAlt shape_H8_0 hook_H8_0 loopNil) (fun _ _ _ _ => rfl) (goodl_H8_0 goodL_nil)
noncomputable def spec_H8 (b : SHeader) (a : SView) (k : V -> Option R) : Option R := let d := m_G8 b; bif ((d != 0) == false) then let e := m_I1 a.Window; bif (!e) then k (V.data [.int .i64] []) else let c := m_I7 b; loop_H8_0 c a (fuel_H8_0 c 0 a []) 0 [] (fun g f => k (V.data [.int .i64] f)) else k (V.data [.int .i64] [])
abbrev av_H8 (a : SHeader) (b : SView) : List V := [(SHeader.v a), (SView.v b)]
theorem spec_H8_eq (a : SHeader) (b : SView) (k : V -> Option R) : fnK env_H8 Try.f16 (av_H8 a b) k = spec_H8 a b k := by kernel_rfl
theorem mk_H8 (h_G8 : G_G8) (h_I7 : G_I7) (h_I8 : G_I8) (h_D2 : G_D2) (h_I1 : G_I1) (h : ∀ (a : SHeader) (b : SView), Real (av_H8 a b) -> spec_H8 a b some = some (V.data [.int .i64] (m_H8 a b))) : G_H8 := goodHook1 fun l hp => by
  unfold hp_H8 at hp
  split at hp
  · rename_i d f g i j m o p q r s t u
    exact fn_ok (fn := Try.f16) (c := bodyOf Try.f16) (E := env_H8) ⟨by kernel_rfl, (goodCons h_G8 (goodCons h_I7 (goodCons h_I8 (goodCons h_D2 (goodCons h_I1 goodNil))))), rfl⟩ rfl (by kernel_rfl) (by kernel_rfl) (by kernel_rfl) (loopsOK_of _ (by have e : loopsOf (bodyOf Try.f16) = [(0, loopAt Try.f16 0)] := (by kernel_rfl); rw [e]; simp only [List.forall_mem_cons, List.not_mem_nil, false_implies, implies_true, and_true]; exact good_H8_0)) (fun hr => (spec_H8_eq (SHeader.mk (SRect.mk d f g i) j m o) (SView.mk p q (SRect.mk r s t u)) some).trans (h (SHeader.mk (SRect.mk d f g i) j m o) (SView.mk p q (SRect.mk r s t u)) hr))
  · cases hp
noncomputable def fuel_B5_0 (c d : Rows) (a b : Int) : Nat := Int.toNat (a - b) + 1
noncomputable def step_B5_0 (b c : Rows) (d : Int) (a : Int) (again : Int -> Option R) (kn : Int -> Option R) (kr : V -> Option R) : Option R := bif (decide (a < d)) then bif (inR a (List.length b)) then let e := List.getD b (Int.toNat a) []; let f := V.toInt (List.getD e 0 V.undef); bif (inR a (List.length c)) then let g := List.getD c (Int.toNat a) []; let i := V.toInt (List.getD g 0 V.undef); bif (f != i) then kr (V.bool false) else let j := IntKind.wrap .i64 (a + 1); again j else none else none else kn a
noncomputable def loop_B5_0 (a b : Rows) (c : Int) : Nat -> Int -> (Int -> Option R) -> (V -> Option R) -> Option R
  | 0, _, _, _ => none
  | n + 1, d, kn, kr => step_B5_0 a b c d (fun e => loop_B5_0 a b c n e kn kr) kn kr
noncomputable def shape_B5_0 : ST := ⟨unds 5 (.data [.int .i64] :: .data [.int .i64] :: unds 18 (.int .i64 :: .int .i64 :: unds 13 [])), [], 26⟩
noncomputable def st_B5_0 (a b : Rows) (c : Int) (d : Int) : St := shape_B5_0.put [.r a, .r b, .i c, .i d]
noncomputable def hook_B5_0 : LoopG R := fun l kn _ kr => match l with
  | .r a :: .r b :: .i c :: .i d :: [] => loop_B5_0 a b c (fuel_B5_0 a b c d) d (fun e => kn (st_B5_0 a b c e)) kr
  | _ => none
noncomputable def env_B5 : Env R := ⟨Try.prog, callCons 11 c_J9 (callCons 12 c_H6 (callCons 15 c_E5 (callCons 16 c_H8 callNil))), fun id => bif Nat.beq id 0 then loopAlt shape_B5_0 hook_B5_0 loopNil else (fun _ _ _ _ _ => none) id, Try.f5.results.toList, maskTab 40 [(0, 0xc), (1, 0x80c), (2, 0x10), (3, 0x60), (4, 0x800060), (5, 0x10), (6, 0x6000060), (7, 0xe000060), (8, 0x60000e0), (9, 0x2006000060), (10, 0x10), (11, 0x6000060), (12, 0x10)], maskAt [(1, 26), (2, 3), (4, 7), (6, 9), (8, 17), (10, 22), (12, 23), (14, 30), (16, 31), (18, 33), (20, 42), (22, 43), (24, 45)]⟩
theorem step_B5_0_eq (a b : Rows) (c : Int) (e : Int) (kn : St -> Option R) (kx : Nat -> St -> Option R) (kr : V -> Option R) (n : Nat) (f : Int) :
    loopN env_B5 0 (loopAt Try.f5 0) (st_B5_0 a b c e) kn kx kr (n + 1) (st_B5_0 a b c f) =
    step_B5_0 a b c f (fun d => loopN env_B5 0 (loopAt Try.f5 0) (st_B5_0 a b c e) kn kx kr n (st_B5_0 a b c d)) (fun d => kn (st_B5_0 a b c d)) kr := by kernel_rfl
theorem loop_B5_0_eq (a b : Rows) (c : Int) (f : Int) (kn : St -> Option R) (kx : Nat -> St -> Option R) (kr : V -> Option R) : ∀ (n : Nat) (d : Int),
    loop_B5_0 a b c n d (fun e => kn (st_B5_0 a b c e)) kr = loopN env_B5 0 (loopAt Try.f5 0) (st_B5_0 a b c f) kn kx kr n (st_B5_0 a b c d)
  | 0, _ => rfl
  | n + 1, d => by
    rw [step_B5_0_eq, loop_B5_0]
    congr 1
    funext e
    exact loop_B5_0_eq a b c f kn kx kr n e
theorem goodl_B5_0 {rest} (h : GoodL (R := R) env_B5 0 (loopAt Try.f5 0) rest) : GoodL (R := R) env_B5 0 (loopAt Try.f5 0) (loopAlt shape_B5_0 hook_B5_0 rest) := by
  refine goodL_alt (fun l kn kx kr r h => ?_) h
  unfold hook_B5_0 at h
  split at h
  · rename_i b c d a
    exact ⟨_, (loop_B5_0_eq b c d a kn kx kr _ a).symm.trans h⟩
  · cases h
theorem good_B5_0 : GoodLoop (R := R) env_B5 0 (loopAt Try.f5 0) := goodL_loop (g := loopAlt shape_B5_0 hook_B5_0 loopNil) (fun _ _ _ _ => rfl) (goodl_B5_0 goodL_nil)
noncomputable def spec_B5 (b : SHeader) (d : SView) (k : V -> Option R) : Option R := let f := m_J9 b (SParams.mk 0 0 0 0 0 [] 0 0 (SMode.mk false false false false false) false false false [] 0 0); bif (!f) then let g := m_H6; k (V.bool g) else let a := m_E5 b d; let c := m_H8 b d; let i := (((List.length a) : Nat) : Int); let j := (((List.length c) : Nat) : Int); bif (i != j) then k (V.bool false) else let e := (((List.length a) : Nat) : Int); loop_B5_0 a c e (fuel_B5_0 a c e 0) 0 (fun o => let m := m_H6; k (V.bool m)) k
abbrev av_B5 (a : SHeader) (b : SView) : List V := [(SHeader.v a), (SView.v b)]
theorem spec_B5_eq (a : SHeader) (b : SView) (k : V -> Option R) : fnK env_B5 Try.f5 (av_B5 a b) k = spec_B5 a b k := by kernel_rfl
theorem mk_B5 (h_J9 : G_J9) (h_H6 : G_H6) (h_E5 : G_E5) (h_H8 : G_H8) (h : ∀ (a : SHeader) (b : SView), Real (av_B5 a b) -> spec_B5 a b some = some (V.bool (m_B5 a b))) : G_B5 := goodHook1 fun l hp => by
  unfold hp_B5 at hp
  split at hp
  · rename_i d f g i j m o p q r s t u
    exact fn_ok (fn := Try.f5) (c := bodyOf Try.f5) (E := env_B5) ⟨by kernel_rfl, (goodCons h_J9 (goodCons h_H6 (goodCons h_E5 (goodCons h_H8 goodNil)))), rfl⟩ rfl (by kernel_rfl) (by kernel_rfl) (by kernel_rfl) (loopsOK_of _ (by have e : loopsOf (bodyOf Try.f5) = [(0, loopAt Try.f5 0)] := (by kernel_rfl); rw [e]; simp only [List.forall_mem_cons, List.not_mem_nil, false_implies, implies_true, and_true]; exact good_B5_0)) (fun hr => (spec_B5_eq (SHeader.mk (SRect.mk d f g i) j m o) (SView.mk p q (SRect.mk r s t u)) some).trans (h (SHeader.mk (SRect.mk d f g i) j m o) (SView.mk p q (SRect.mk r s t u)) hr))
  · cases hp
noncomputable def env_F7 : Env R := ⟨Try.prog, callCons 19 c_G8 (callCons 21 c_H7 (callCons 31 c_I8 (callCons 32 c_D2 (callCons 37 c_I1 (callCons 43 c_H0 callNil))))), fun _ _ _ _ _ => none, Try.f26.results.toList, maskTab 77 [(0, 0x180003e73800078), (1, 0x180003e73800178), (2, 0x180003e73810178), (3, 0xc0), (4, 0x180004000000068), (5, 0xc0), (6, 0x180000000000268), (7, 0x180200000000268), (8, 0x180000000000268), (9, 0x200000000000268), (10, 0xc0), (11, 0x648), (12, 0x840), (13, 0x4000000000000000840), (14, 0xc0), (15, 0xc0)], maskAt [(2, 5), (4, 9), (6, 11), (8, 15), (10, 35), (12, 38), (14, 42), (16, 46), (18, 51), (20, 59), (22, 62), (24, 67), (26, 78), (28, 81), (30, 84)]⟩
noncomputable def spec_F7 (b : SHeader) (e : SParams) (a : SView) (k : V -> Option R) : Option R := let f := m_H7 b e; bif (f != 0) then k (V.tup [(V.agg [(V.int .i64 0), (V.int .i64 0), (V.int .i64 0), (V.int .i64 0), (V.int .i64 0), (V.int .i64 0), (V.data SComponent.sh [])]), V.int .i64 f]) else let p := decide (a.Layers < 0); let q := decide (a.Layers > 16); let r : Bool := (bif p then true else q); let s := decide (a.Drop < 0); let t : Bool := (bif r then true else s); let u := decide (a.Drop > e.Levels); let v : Bool := (bif t then true else u); bif v then k (V.tup [(V.agg [(V.int .i64 0), (V.int .i64 0), (V.int .i64 0), (V.int .i64 0), (V.int .i64 0), (V.int .i64 0), (V.data SComponent.sh [])]), (V.int .i64 2)]) else let w := !((a.Window.X0 == 0) && ((a.Window.Y0 == 0) && ((a.Window.X1 == 0) && ((a.Window.Y1 == 0) && true)))); bif w then let g := m_D2 b.Area a.Window; let y := m_I1 a.Window; bif ((!y) == false) then let z := m_I8 g; bif z then k (V.tup [(V.agg [(V.int .i64 0), (V.int .i64 0), (V.int .i64 0), (V.int .i64 0), (V.int .i64 0), (V.int .i64 0), (V.data SComponent.sh [])]), (V.int .i64 2)]) else let i := IntKind.wrap .u64 a.Drop; bif (decide (0 <= i)) then let j := IntKind.wrap .i64 (1 * 2 ^ (min (Int.toNat i) 64)); let c := m_H0 g j j; bif (roomOK ((0 : Nat) + (List.length b.Components)) 32) then let A := m_G8 (SHeader.mk c 4096 4096 ([] ++ b.Components)); bif (A != 0) then k (V.tup [(V.agg [(V.int .i64 0), (V.int .i64 0), (V.int .i64 0), (V.int .i64 0), (V.int .i64 0), (V.int .i64 0), (V.data SComponent.sh [])]), (V.int .i64 2)]) else k (V.tup [(V.agg [V.int .i64 c.X0, V.int .i64 c.Y0, V.int .i64 c.X1, V.int .i64 c.Y1, (V.int .i64 4096), (V.int .i64 4096), (V.data SComponent.sh ([] ++ b.Components))]), (V.int .i64 0)]) else none else none else k (V.tup [(V.agg [(V.int .i64 0), (V.int .i64 0), (V.int .i64 0), (V.int .i64 0), (V.int .i64 0), (V.int .i64 0), (V.data SComponent.sh [])]), (V.int .i64 2)]) else let m := IntKind.wrap .u64 a.Drop; bif (decide (0 <= m)) then let o := IntKind.wrap .i64 (1 * 2 ^ (min (Int.toNat m) 64)); let d := m_H0 b.Area o o; bif (roomOK ((0 : Nat) + (List.length b.Components)) 32) then let B := m_G8 (SHeader.mk d 4096 4096 ([] ++ b.Components)); bif (B != 0) then k (V.tup [(V.agg [(V.int .i64 0), (V.int .i64 0), (V.int .i64 0), (V.int .i64 0), (V.int .i64 0), (V.int .i64 0), (V.data SComponent.sh [])]), (V.int .i64 2)]) else k (V.tup [(V.agg [V.int .i64 d.X0, V.int .i64 d.Y0, V.int .i64 d.X1, V.int .i64 d.Y1, (V.int .i64 4096), (V.int .i64 4096), (V.data SComponent.sh ([] ++ b.Components))]), (V.int .i64 0)]) else none else none
abbrev av_F7 (a : SHeader) (b : SParams) (c : SView) : List V := [(SHeader.v a), (SParams.v b), (SView.v c)]
theorem spec_F7_eq (a : SHeader) (b : SParams) (c : SView) (k : V -> Option R) : fnK env_F7 Try.f26 (av_F7 a b c) k = spec_F7 a b c k := by kernel_rfl
theorem mk_F7 (h_G8 : G_G8) (h_H7 : G_H7) (h_I8 : G_I8) (h_D2 : G_D2) (h_I1 : G_I1) (h_H0 : G_H0) (h : ∀ (a : SHeader) (b : SParams) (d : SView), pre_F7 a b d = true -> Real (av_F7 a b d) -> spec_F7 a b d some = some (V.tup [(SHeader.v (m_F7 a b d).1), (V.int .i64 (m_F7 a b d).2)])) : G_F7 := goodHook1 fun l hp => by
  unfold hp_F7 at hp
  split at hp
  · rename_i f g i j m o q r s t u v w y z A B D F H I J K L M N O Q S U W X
    exact fn_ok (fn := Try.f26) (c := bodyOf Try.f26) (E := env_F7) ⟨by kernel_rfl, (goodCons h_G8 (goodCons h_H7 (goodCons h_I8 (goodCons h_D2 (goodCons h_I1 (goodCons h_H0 goodNil)))))), rfl⟩ rfl (by kernel_rfl) (by kernel_rfl) (by kernel_rfl) (loopsOK_of _ (by have e : loopsOf (bodyOf Try.f26) = [] := (by kernel_rfl); rw [e]; intro p hp; cases hp)) (fun hr => (spec_F7_eq (SHeader.mk (SRect.mk f g i j) m o q) (SParams.mk r s t u v w y z (SMode.mk A B D F H) I J K L M N) (SView.mk O Q (SRect.mk S U W X)) some).trans (h (SHeader.mk (SRect.mk f g i j) m o q) (SParams.mk r s t u v w y z (SMode.mk A B D F H) I J K L M N) (SView.mk O Q (SRect.mk S U W X)) hp hr))
  · cases hp
theorem au_F7 (a : SHeader) (b : SParams) (c : SView) : pre_F7 a b c = true -> spec_F7 a b c some = some ((fun (m : SHeader × Int) => (V.tup [(SHeader.v m.1), V.int .i64 m.2])) (m_F7 a b c)) := by
  repeat' (first | exact fun _ => rfl | exact fun h => absurd h (by decide) | refine bif_p (v := (fun (m : SHeader × Int) => (V.tup [(SHeader.v m.1), V.int .i64 m.2]))) ?_ ?_)
theorem good_F7_of (h_G8 : G_G8) (h_H7 : G_H7) (h_I8 : G_I8) (h_D2 : G_D2) (h_I1 : G_I1) (h_H0 : G_H0) : G_F7 := mk_F7 h_G8 h_H7 h_I8 h_D2 h_I1 h_H0 (fun _ _ _ hp _ => au_F7 _ _ _ hp)
noncomputable def env_I9 : Env R := ⟨Try.prog, callNil, fun _ _ _ _ _ => none, Try.f59.results.toList, maskTab 13 [(0, 0xcc1), (1, 0x4)], maskAt [(2, 1)]⟩
noncomputable def spec_I9 (a : Int) (k : V -> Option R) : Option R := let b : Bool := (bif (a == 1) then true else (a == 2)); let c : Bool := (bif b then true else (a == 3)); k (V.bool c)
abbrev av_I9 (a : Int) : List V := [V.int .i64 a]
theorem spec_I9_eq (a : Int) (k : V -> Option R) : fnK env_I9 Try.f59 (av_I9 a) k = spec_I9 a k := by kernel_rfl
theorem mk_I9 (h : ∀ (a : Int), Real (av_I9 a) -> spec_I9 a some = some (V.bool (m_I9 a))) : G_I9 := goodHook1 fun l hp => by
  unfold hp_I9 at hp
  split at hp
  · rename_i b
    exact fn_ok (fn := Try.f59) (c := bodyOf Try.f59) (E := env_I9) ⟨by kernel_rfl, goodNil, rfl⟩ rfl (by kernel_rfl) (by kernel_rfl) (by kernel_rfl) (loopsOK_of _ (by have e : loopsOf (bodyOf Try.f59) = [] := (by kernel_rfl); rw [e]; intro p hp; cases hp)) (fun hr => (spec_I9_eq b some).trans (h b hr))
  · cases hp
theorem au_I9 (a : Int) : spec_I9 a some = some ((fun (m : Bool) => (V.bool m)) (m_I9 a)) := by
  repeat' (first | rfl | refine bif_t (v := (fun (m : Bool) => (V.bool m))) ?_ ?_)
theorem good_I9_of : G_I9 := mk_I9 (fun _ _ => au_I9 _)
noncomputable def env_G5 : Env R := ⟨Try.prog, callNil, fun _ _ _ _ _ => none, Try.f61.results.toList, maskTab 9 [(0, 0x1), (1, 0x8), (2, 0x18), (3, 0x18), (4, 0x4), (5, 0x80), (6, 0x4), (7, 0x4)], maskAt [(2, 1), (4, 2), (6, 4), (8, 6), (10, 7), (12, 9), (14, 10)]⟩
noncomputable def spec_G5 (a : Int) (k : V -> Option R) : Option R := bif (a == 1) then bif (a == 1) then k (V.int .i64 2) else bif (a == 3) then k (V.int .i64 4) else k (V.int .i64 0) else bif (a == 2) then k (V.int .i64 2) else bif (a == 3) then k (V.int .i64 4) else k (V.int .i64 0)
abbrev av_G5 (a : Int) : List V := [V.int .i64 a]
theorem spec_G5_eq (a : Int) (k : V -> Option R) : fnK env_G5 Try.f61 (av_G5 a) k = spec_G5 a k := by kernel_rfl
theorem mk_G5 (h : ∀ (a : Int), Real (av_G5 a) -> spec_G5 a some = some (V.int .i64 (m_G5 a))) : G_G5 := goodHook1 fun l hp => by
  unfold hp_G5 at hp
  split at hp
  · rename_i b
    exact fn_ok (fn := Try.f61) (c := bodyOf Try.f61) (E := env_G5) ⟨by kernel_rfl, goodNil, rfl⟩ rfl (by kernel_rfl) (by kernel_rfl) (by kernel_rfl) (loopsOK_of _ (by have e : loopsOf (bodyOf Try.f61) = [] := (by kernel_rfl); rw [e]; intro p hp; cases hp)) (fun hr => (spec_G5_eq b some).trans (h b hr))
  · cases hp
theorem au_G5 (a : Int) : spec_G5 a some = some ((fun (m : Int) => (V.int .i64 m)) (m_G5 a)) := by
  repeat' (first | rfl | refine bif_t (v := (fun (m : Int) => (V.int .i64 m))) ?_ ?_)
theorem good_G5_of : G_G5 := mk_G5 (fun _ _ => au_G5 _)
noncomputable def fuel_J2_0 (b c a : Int) (d : SRect) (e : Rows) (f : SRect) : Nat := let g := decide (a > 0); Int.toNat (a - 0) + 1
noncomputable def step_J2_0 (o c : Int) (p : SRect) (a : Int) (d : Rows) (b : SRect) (again : Int -> Rows -> SRect -> Option R) (kn : Int -> Rows -> SRect -> Option R) : Option R := let q := decide (a > 0); bif q then let r := IntKind.wrap .i64 (b.X0 - c); let s := IntKind.wrap .i64 (b.Y0 - c); let t := IntKind.wrap .i64 (b.X1 + c); let u := IntKind.wrap .i64 (b.Y1 + c); let v := m_C7 p o a; let w := m_D2 (SRect.mk r s t u) v; let e := m_I5 w; let y := IntKind.wrap .i64 (3 * a); let f := IntKind.wrap .i64 (y - 2); let z := IntKind.wrap .i64 (3 * a); let g := IntKind.wrap .i64 (z - 1); let i := IntKind.wrap .i64 (3 * a); bif (inR f (List.length d)) then let j := List.set d (Int.toNat f) (setCells (List.getD d (Int.toNat f) []) 0 (SRect.row e.e1)); bif (inR g (List.length j)) then let m := List.set j (Int.toNat g) (setCells (List.getD j (Int.toNat g) []) 0 (SRect.row e.e2)); bif (inR i (List.length m)) then let A := List.set m (Int.toNat i) (setCells (List.getD m (Int.toNat i) []) 0 (SRect.row e.e3)); let B := IntKind.wrap .i64 (a - 1); again B A e.e0 else none else none else none else kn a d b
noncomputable def loop_J2_0 (a b : Int) (c : SRect) : Nat -> Int -> Rows -> SRect -> (Int -> Rows -> SRect -> Option R) -> Option R
  | 0, _, _, _, _ => none
  | n + 1, d, e, f, kn => step_J2_0 a b c d e f (fun g i j => loop_J2_0 a b c n g i j kn) kn
noncomputable def shape_J2_0 : ST := ⟨.undef :: .int .i64 :: unds 3 (.ptr 0 0 0 :: unds 5 (.vs 28 :: .ptr 36 0 0 :: .int .i64 :: .int .i64 :: unds 93 [])), [(0, .var SRect.sh false SRect.ts), (28, .vec SRect.sh false), (36, .var SRect.sh false SRect.ts)], 47⟩
noncomputable def st_J2_0 (c d : Int) (a : SRect) (e : Int) (f : Rows) (b : SRect) : St := shape_J2_0.put [.i c, .i d, .i e, .i a.X0, .i a.Y0, .i a.X1, .i a.Y1, .r f, .i b.X0, .i b.Y0, .i b.X1, .i b.Y1]
noncomputable def hook_J2_0 : LoopG R := fun l kn _ _ => match l with
  | .i a :: .i b :: .i g :: .i c :: .i d :: .i e :: .i f :: .r i :: .i j :: .i m :: .i o :: .i p :: [] => loop_J2_0 a b (SRect.mk c d e f) (fuel_J2_0 a b g (SRect.mk c d e f) i (SRect.mk j m o p)) g i (SRect.mk j m o p) (fun q r s => kn (st_J2_0 a b (SRect.mk c d e f) q r s))
  | _ => none
noncomputable def env_J2 : Env R := ⟨Try.prog, callCons 31 c_I8 (callCons 32 c_D2 (callCons 37 c_I1 (callCons 58 c_H5 (callCons 59 c_I9 (callCons 60 c_C7 (callCons 61 c_G5 (callCons 62 c_I5 callNil))))))), fun id => bif Nat.beq id 0 then loopAlt shape_J2_0 hook_J2_0 loopNil else (fun _ _ _ _ _ => none) id, Try.f27.results.toList, maskTab 108 [(0, 0x39cce00136), (1, 0x4000000136), (2, 0x400), (3, 0x936), (4, 0x1836), (5, 0x2000000001836), (6, 0x400), (7, 0x3826), (8, 0x7822), (9, 0x80000000007822), (10, 0x7822), (11, 0xf822), (12, 0x17822), (13, 0x17822), (14, 0x7822), (15, 0x800), (16, 0x400)], maskAt [(1, 47), (2, 3), (4, 25), (6, 26), (8, 30), (10, 38), (12, 40), (14, 42), (16, 45), (18, 51), (20, 107), (22, 53), (24, 77), (26, 81), (28, 104), (30, 110), (32, 114)]⟩
theorem step_J2_0_eq (a b : Int) (c : SRect) (g : Int) (i : Rows) (j : SRect) (kn : St -> Option R) (kx : Nat -> St -> Option R) (kr : V -> Option R) (n : Nat) (m : Int) (o : Rows) (p : SRect) :
    loopN env_J2 0 (loopAt Try.f27 0) (st_J2_0 a b c g i j) kn kx kr (n + 1) (st_J2_0 a b c m o p) =
    step_J2_0 a b c m o p (fun d e f => loopN env_J2 0 (loopAt Try.f27 0) (st_J2_0 a b c g i j) kn kx kr n (st_J2_0 a b c d e f)) (fun d e f => kn (st_J2_0 a b c d e f)) := by kernel_rfl
theorem loop_J2_0_eq (a b : Int) (c : SRect) (m : Int) (o : Rows) (p : SRect) (kn : St -> Option R) (kx : Nat -> St -> Option R) (kr : V -> Option R) : ∀ (n : Nat) (d : Int) (e : Rows) (f : SRect),
    loop_J2_0 a b c n d e f (fun g i j => kn (st_J2_0 a b c g i j)) = loopN env_J2 0 (loopAt Try.f27 0) (st_J2_0 a b c m o p) kn kx kr n (st_J2_0 a b c d e f)
  | 0, _, _, _ => rfl
  | n + 1, d, e, f => by
    rw [step_J2_0_eq, loop_J2_0]
    congr 1
    funext g i j
    exact loop_J2_0_eq a b c m o p kn kx kr n g i j
theorem goodl_J2_0 {rest} (h : GoodL (R := R) env_J2 0 (loopAt Try.f27 0) rest) : GoodL (R := R) env_J2 0 (loopAt Try.f27 0) (loopAlt shape_J2_0 hook_J2_0 rest) := by
  refine goodL_alt (fun l kn kx kr r h => ?_) h
  unfold hook_J2_0 at h
  split at h
  · rename_i g i a j m o p b c d e f
    exact ⟨_, (loop_J2_0_eq g i (SRect.mk j m o p) a b (SRect.mk c d e f) kn kx kr _ a b (SRect.mk c d e f)).symm.trans h⟩
  · cases h
theorem good_J2_0 : GoodLoop (R := R) env_J2 0 (loopAt Try.f27 0) := goodL_loop (g := loopAlt shape_J2_0 hook_J2_0 loopNil) (fun _ _ _ _ => rfl) (goodl_J2_0 goodL_nil)
noncomputable def spec_J2 (d : SRect) (a c : Int) (m : SRect) (i : Int) (k : V -> Option R) : Option R := let o := m_I1 d; bif ((!o) == false) then let p := m_H5 a; let q := decide (c < 0); let r : Bool := (bif (p == 0) then true else q); let s : Bool := (bif r then true else (decide (c > a))); bif (s == false) then let t := m_I9 i; bif (!t) then k (V.data SRect.sh []) else let b := m_H5 a; bif (((((decide (0 <= b)) && (decide (b <= b))) && (decide ((b * 32) <= 140737488355328))) && (decide (b <= 140737488355328))) && true) then let e := List.replicate (Int.toNat b) [(V.int .i64 0), (V.int .i64 0), (V.int .i64 0), (V.int .i64 0)]; let u := m_C7 d a c; let f := m_D2 m u; let v := m_I8 f; bif v then k (V.data SRect.sh e) else let j := m_G5 i; loop_J2_0 a j d (fuel_J2_0 a j c d e f) c e f (fun z g w => bif (inR 0 (List.length g)) then let y := List.set g (0 : Nat) (setCells (List.getD g (0 : Nat) []) 0 (SRect.row w)); k (V.data SRect.sh y) else none) else none else k (V.data SRect.sh []) else k (V.data SRect.sh [])
abbrev av_J2 (a : SRect) (b c : Int) (d : SRect) (e : Int) : List V := [(SRect.v a), V.int .i64 b, V.int .i64 c, (SRect.v d), V.int .i64 e]
theorem spec_J2_eq (a : SRect) (b c : Int) (d : SRect) (e : Int) (k : V -> Option R) : fnK env_J2 Try.f27 (av_J2 a b c d e) k = spec_J2 a b c d e k := by kernel_rfl
theorem mk_J2 (h_I8 : G_I8) (h_D2 : G_D2) (h_I1 : G_I1) (h_H5 : G_H5) (h_I9 : G_I9) (h_C7 : G_C7) (h_G5 : G_G5) (h_I5 : G_I5) (h : ∀ (a : SRect) (b d : Int) (f : SRect) (g : Int), Real (av_J2 a b d f g) -> spec_J2 a b d f g some = some (V.data SRect.sh (m_J2 a b d f g))) : G_J2 := goodHook1 fun l hp => by
  unfold hp_J2 at hp
  split at hp
  · rename_i i j m o p q r s t u v
    exact fn_ok (fn := Try.f27) (c := bodyOf Try.f27) (E := env_J2) ⟨by kernel_rfl, (goodCons h_I8 (goodCons h_D2 (goodCons h_I1 (goodCons h_H5 (goodCons h_I9 (goodCons h_C7 (goodCons h_G5 (goodCons h_I5 goodNil)))))))), rfl⟩ rfl (by kernel_rfl) (by kernel_rfl) (by kernel_rfl) (loopsOK_of _ (by have e : loopsOf (bodyOf Try.f27) = [(0, loopAt Try.f27 0)] := (by kernel_rfl); rw [e]; simp only [List.forall_mem_cons, List.not_mem_nil, false_implies, implies_true, and_true]; exact good_J2_0)) (fun hr => (spec_J2_eq (SRect.mk i j m o) p q (SRect.mk r s t u) v some).trans (h (SRect.mk i j m o) p q (SRect.mk r s t u) v hr))
  · cases hp
noncomputable def env_D1 : Env R := ⟨Try.prog, callCons 20 c_I7 (callCons 43 c_H0 callNil), fun _ _ _ _ _ => none, Try.f28.results.toList, maskTab 47 [(0, 0xf99e04e), (1, 0xf99e0ce), (2, 0x100000ce), (3, 0x40), (4, 0x40)], maskAt [(2, 2), (4, 5), (6, 24), (8, 26)]⟩
noncomputable def spec_D1 (a : SHeader) (c b : Int) (k : V -> Option R) : Option R := let d := m_I7 a; let e := decide (c < 0); bif (e == false) then let f := (((List.length d) : Nat) : Int); let g := decide (b < 0); let i : Bool := (bif (decide (c >= f)) then true else g); bif (i == false) then let j := (((List.length a.Components) : Nat) : Int); bif (decide (b >= j)) then k (V.agg [(V.int .i64 0), (V.int .i64 0), (V.int .i64 0), (V.int .i64 0)]) else bif (inR c (List.length d)) then let m := List.getD d (Int.toNat c) []; let o := SRect.of m; bif (inR b (List.length a.Components)) then let p := List.getD a.Components (Int.toNat b) []; let q := V.toInt (List.getD p 2 V.undef); bif (inR b (List.length a.Components)) then let r := List.getD a.Components (Int.toNat b) []; let s := V.toInt (List.getD r 3 V.undef); let t := m_H0 o q s; k (SRect.v t) else none else none else none else k (V.agg [(V.int .i64 0), (V.int .i64 0), (V.int .i64 0), (V.int .i64 0)]) else k (V.agg [(V.int .i64 0), (V.int .i64 0), (V.int .i64 0), (V.int .i64 0)])
abbrev av_D1 (a : SHeader) (b c : Int) : List V := [(SHeader.v a), V.int .i64 b, V.int .i64 c]
theorem spec_D1_eq (a : SHeader) (b c : Int) (k : V -> Option R) : fnK env_D1 Try.f28 (av_D1 a b c) k = spec_D1 a b c k := by kernel_rfl
theorem mk_D1 (h_I7 : G_I7) (h_H0 : G_H0) (h : ∀ (a : SHeader) (b d : Int), Real (av_D1 a b d) -> spec_D1 a b d some = some (SRect.v (m_D1 a b d))) : G_D1 := goodHook1 fun l hp => by
  unfold hp_D1 at hp
  split at hp
  · rename_i f g i j m o q r s
    exact fn_ok (fn := Try.f28) (c := bodyOf Try.f28) (E := env_D1) ⟨by kernel_rfl, (goodCons h_I7 (goodCons h_H0 goodNil)), rfl⟩ rfl (by kernel_rfl) (by kernel_rfl) (by kernel_rfl) (loopsOK_of _ (by have e : loopsOf (bodyOf Try.f28) = [] := (by kernel_rfl); rw [e]; intro p hp; cases hp)) (fun hr => (spec_D1_eq (SHeader.mk (SRect.mk f g i j) m o q) r s some).trans (h (SHeader.mk (SRect.mk f g i j) m o q) r s hr))
  · cases hp
theorem au_D1 (a : SHeader) (b c : Int) : pre_D1 a b c = true -> spec_D1 a b c some = some ((fun (m : SRect) => (SRect.v m)) (m_D1 a b c)) := by
  repeat' (first | exact fun _ => rfl | exact fun h => absurd h (by decide) | refine bif_p (v := (fun (m : SRect) => (SRect.v m))) ?_ ?_)
theorem good_D1_of (h_I7 : G_I7) (h_H0 : G_H0) : G_D1 := mk_D1 h_I7 h_H0 (fun _ _ _ _ => au_D1 _ _ _ (pt_D1 _ _ _))
noncomputable def env_G2 : Env R := ⟨Try.prog, callCons 20 c_I7 (callCons 32 c_D2 (callCons 43 c_H0 callNil)), fun _ _ _ _ _ => none, Try.f29.results.toList, maskTab 42 [(0, 0x196), (1, 0x394), (2, 0x80394), (3, 0x394), (4, 0x780), (5, 0x100)], maskAt [(2, 3), (4, 10), (6, 14), (8, 19), (10, 26)]⟩
noncomputable def spec_G2 (b : SHeader) (d c : Int) (a : SView) (k : V -> Option R) : Option R := let e := m_I7 b; bif (inR d (List.length e)) then let j := List.getD e (Int.toNat d) []; let f := SRect.of j; let m := !((a.Window.X0 == 0) && ((a.Window.Y0 == 0) && ((a.Window.X1 == 0) && ((a.Window.Y1 == 0) && true)))); bif m then let o := m_D2 f a.Window; bif (inR c (List.length b.Components)) then let p := List.getD b.Components (Int.toNat c) []; let g := SComponent.of p; let q := m_H0 o g.DX g.DY; bif (decide (0 <= a.Drop)) then let r := IntKind.wrap .i64 (1 * 2 ^ (min (Int.toNat a.Drop) 64)); bif (decide (0 <= a.Drop)) then let s := IntKind.wrap .i64 (1 * 2 ^ (min (Int.toNat a.Drop) 64)); let t := m_H0 q r s; k (SRect.v t) else none else none else none else bif (inR c (List.length b.Components)) then let u := List.getD b.Components (Int.toNat c) []; let i := SComponent.of u; let v := m_H0 f i.DX i.DY; bif (decide (0 <= a.Drop)) then let w := IntKind.wrap .i64 (1 * 2 ^ (min (Int.toNat a.Drop) 64)); bif (decide (0 <= a.Drop)) then let y := IntKind.wrap .i64 (1 * 2 ^ (min (Int.toNat a.Drop) 64)); let z := m_H0 v w y; k (SRect.v z) else none else none else none else none
abbrev av_G2 (a : SHeader) (b c : Int) (d : SView) : List V := [(SHeader.v a), V.int .i64 b, V.int .i64 c, (SView.v d)]
theorem spec_G2_eq (a : SHeader) (b c : Int) (d : SView) (k : V -> Option R) : fnK env_G2 Try.f29 (av_G2 a b c d) k = spec_G2 a b c d k := by kernel_rfl
theorem mk_G2 (h_I7 : G_I7) (h_D2 : G_D2) (h_H0 : G_H0) (h : ∀ (a : SHeader) (b d : Int) (f : SView), pre_G2 a b d f = true -> Real (av_G2 a b d f) -> spec_G2 a b d f some = some (SRect.v (m_G2 a b d f))) : G_G2 := goodHook1 fun l hp => by
  unfold hp_G2 at hp
  split at hp
  · rename_i g i j m o q r s t u v w y z A
    exact fn_ok (fn := Try.f29) (c := bodyOf Try.f29) (E := env_G2) ⟨by kernel_rfl, (goodCons h_I7 (goodCons h_D2 (goodCons h_H0 goodNil))), rfl⟩ rfl (by kernel_rfl) (by kernel_rfl) (by kernel_rfl) (loopsOK_of _ (by have e : loopsOf (bodyOf Try.f29) = [] := (by kernel_rfl); rw [e]; intro p hp; cases hp)) (fun hr => (spec_G2_eq (SHeader.mk (SRect.mk g i j m) o q r) s t (SView.mk u v (SRect.mk w y z A)) some).trans (h (SHeader.mk (SRect.mk g i j m) o q r) s t (SView.mk u v (SRect.mk w y z A)) hp hr))
  · cases hp
theorem au_G2 (a : SHeader) (b c : Int) (d : SView) : pre_G2 a b c d = true -> spec_G2 a b c d some = some ((fun (m : SRect) => (SRect.v m)) (m_G2 a b c d)) := by
  repeat' (first | exact fun _ => rfl | exact fun h => absurd h (by decide) | refine bif_p (v := (fun (m : SRect) => (SRect.v m))) ?_ ?_)
theorem good_G2_of (h_I7 : G_I7) (h_D2 : G_D2) (h_H0 : G_H0) : G_G2 := mk_G2 h_I7 h_D2 h_H0 (fun _ _ _ _ hp _ => au_G2 _ _ _ _ hp)
end Go.Vm
