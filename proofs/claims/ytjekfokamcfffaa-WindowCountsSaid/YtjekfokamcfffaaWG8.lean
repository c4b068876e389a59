import Derived.Test.YtjekfokamcfffaaWM
set_option linter.unusedVariables false
set_option linter.unusedSimpArgs false
set_option maxRecDepth 100000
noncomputable section
namespace Go.Vm
open Go.Proofs
variable {R : Type}
noncomputable def fuel_B2_0 (c d e : Rows) (a b : Int) (f : SL39_Place) (g i : Int) (j : SRect) : Nat := Int.toNat (a - b) + 1
noncomputable def step_B2_0 (b d e : Rows) (g : Int) (u : SL39_Place) (v w : Int) (y : SRect) (a : Int) (again : Int -> Option R) (kn : Int -> Option R) (kr : V -> Option R) : Option R := bif (decide (a < g)) then bif (inR a (List.length b)) then let i := List.getD b (Int.toNat a) []; let f := V.toBool (List.getD i 0 V.undef); bif ((inR a (List.length d)) || !(f == true)) then let j := List.getD d (Int.toNat a) []; let m := V.toBool (List.getD j 0 V.undef); let c : Bool := (bif f then (!m) else false); bif ((inR a (List.length b)) || !(c == false)) then let o := List.getD b (Int.toNat a) []; let p := V.toBool (List.getD o 0 V.undef); bif ((inR a (List.length e)) || !(c == false)) then let q := List.getD e (Int.toNat a) []; let r := V.toBool (List.getD q 0 V.undef); let s : Bool := (bif c then true else (!(p == r))); bif s then kr (V.bool false) else let t := IntKind.wrap .i64 (a + 1); again t else none else none else none else none else kn a
noncomputable def loop_B2_0 (a b c : Rows) (d : Int) (e : SL39_Place) (f g : Int) (i : SRect) : Nat -> Int -> (Int -> Option R) -> (V -> Option R) -> Option R
  | 0, _, _, _ => none
  | n + 1, j, kn, kr => step_B2_0 a b c d e f g i j (fun m => loop_B2_0 a b c d e f g i n m kn kr) kn kr
noncomputable def shape_B2_0 : ST := ⟨.undef :: .undef :: .ptr 0 0 0 :: .ptr 1 0 0 :: .undef :: .data [.bool] :: .undef :: .undef :: .data [.bool] :: unds 3 (.data [.bool] :: unds 120 (.int .i64 :: .int .i64 :: unds 51 [])), [(0, .var SL39_Place.sh false SL39_Place.ts), (1, .var SView.sh false SView.ts)], 137⟩
noncomputable def st_B2_0 (c d e : Rows) (f : Int) (a : SL39_Place) (g i : Int) (b : SRect) (j : Int) : St := shape_B2_0.put [.r c, .r d, .r e, .i f, .i j, .i a.Header.Area.X0, .i a.Header.Area.Y0, .i a.Header.Area.X1, .i a.Header.Area.Y1, .i a.Header.TileW, .i a.Header.TileH, .r a.Header.Components, .i a.Params.Kernel, .i a.Params.Levels, .i a.Params.Color, .i a.Params.BlockX, .i a.Params.BlockY, .r a.Params.Precincts, .i a.Params.Order, .i a.Params.Layers, .b a.Params.Mode.Bypass, .b a.Params.Mode.Restart, .b a.Params.Mode.Reset, .b a.Params.Mode.Causal, .b a.Params.Mode.Symbols, .b a.Params.Divide, .b a.Params.Sync, .b a.Params.Fence, .r a.Params.Steps, .i a.Params.Dead, .i a.Params.Shift, .i a.Tile, .i g, .i i, .i b.X0, .i b.Y0, .i b.X1, .i b.Y1]
noncomputable def hook_B2_0 : LoopG R := fun l kn _ kr => match l with
  | .r a :: .r b :: .r c :: .i d :: .i W :: .i e :: .i f :: .i g :: .i i :: .i j :: .i m :: .r o :: .i p :: .i q :: .i r :: .i s :: .i t :: .r u :: .i v :: .i w :: .b y :: .b z :: .b A :: .b B :: .b D :: .b E :: .b F :: .b H :: .r I :: .i J :: .i K :: .i L :: .i M :: .i N :: .i O :: .i Q :: .i S :: .i U :: [] => loop_B2_0 a b c d (SL39_Place.mk (SHeader.mk (SRect.mk e f g i) j m o) (SParams.mk p q r s t u v w (SMode.mk y z A B D) E F H I J K) L) M N (SRect.mk O Q S U) (fuel_B2_0 a b c d W (SL39_Place.mk (SHeader.mk (SRect.mk e f g i) j m o) (SParams.mk p q r s t u v w (SMode.mk y z A B D) E F H I J K) L) M N (SRect.mk O Q S U)) W (fun X => kn (st_B2_0 a b c d (SL39_Place.mk (SHeader.mk (SRect.mk e f g i) j m o) (SParams.mk p q r s t u v w (SMode.mk y z A B D) E F H I J K) L) M N (SRect.mk O Q S U) X)) kr
  | _ => none
noncomputable def fuel_B2_2 (c : Rows) (d : Bool) (e : Rows) (a b : Int) (f : SL39_Place) : Nat := Int.toNat (a - b) + 1
noncomputable def step_B2_2 (m b : Rows) (d : Int) (e : SL39_Place) (c : Bool) (a : Int) (again : Bool -> Int -> Option R) (kn : Bool -> Int -> Option R) : Option R := bif (decide (a < d)) then bif (inR a (List.length b)) then let f := List.getD b (Int.toNat a) []; let g := V.toInt (List.getD f 0 V.undef); let i : Bool := (bif c then true else (g == e.Tile)); let j := IntKind.wrap .i64 (a + 1); again i j else none else kn c a
noncomputable def loop_B2_2 (a b : Rows) (c : Int) (d : SL39_Place) : Nat -> Bool -> Int -> (Bool -> Int -> Option R) -> Option R
  | 0, _, _, _ => none
  | n + 1, e, f, kn => step_B2_2 a b c d e f (fun g i => loop_B2_2 a b c d n g i kn) kn
noncomputable def shape_B2_2 : ST := ⟨.undef :: .undef :: .ptr 0 0 0 :: .undef :: .undef :: .data [.bool] :: unds 10 (.bool :: unds 146 (.data [.int .i64] :: .int .i64 :: .int .i64 :: unds 20 [])), [(0, .var SL39_Place.sh false SL39_Place.ts)], 176⟩
noncomputable def st_B2_2 (b c : Rows) (d : Int) (a : SL39_Place) (e : Bool) (f : Int) : St := shape_B2_2.put [.r b, .b e, .r c, .i d, .i f, .i a.Header.Area.X0, .i a.Header.Area.Y0, .i a.Header.Area.X1, .i a.Header.Area.Y1, .i a.Header.TileW, .i a.Header.TileH, .r a.Header.Components, .i a.Params.Kernel, .i a.Params.Levels, .i a.Params.Color, .i a.Params.BlockX, .i a.Params.BlockY, .r a.Params.Precincts, .i a.Params.Order, .i a.Params.Layers, .b a.Params.Mode.Bypass, .b a.Params.Mode.Restart, .b a.Params.Mode.Reset, .b a.Params.Mode.Causal, .b a.Params.Mode.Symbols, .b a.Params.Divide, .b a.Params.Sync, .b a.Params.Fence, .r a.Params.Steps, .i a.Params.Dead, .i a.Params.Shift, .i a.Tile]
noncomputable def hook_B2_2 : LoopG R := fun l kn _ _ => match l with
  | .r a :: .b L :: .r b :: .i c :: .i M :: .i d :: .i e :: .i f :: .i g :: .i i :: .i j :: .r m :: .i o :: .i p :: .i q :: .i r :: .i s :: .r t :: .i u :: .i v :: .b w :: .b y :: .b z :: .b A :: .b B :: .b D :: .b E :: .b F :: .r H :: .i I :: .i J :: .i K :: [] => loop_B2_2 a b c (SL39_Place.mk (SHeader.mk (SRect.mk d e f g) i j m) (SParams.mk o p q r s t u v (SMode.mk w y z A B) D E F H I J) K) (fuel_B2_2 a L b c M (SL39_Place.mk (SHeader.mk (SRect.mk d e f g) i j m) (SParams.mk o p q r s t u v (SMode.mk w y z A B) D E F H I J) K)) L M (fun N O => kn (st_B2_2 a b c (SL39_Place.mk (SHeader.mk (SRect.mk d e f g) i j m) (SParams.mk o p q r s t u v (SMode.mk w y z A B) D E F H I J) K) N O))
  | _ => none
noncomputable def env_B2 : Env R := ⟨Try.prog, callCons 11 c_J9 (callCons 12 c_J0 (callCons 13 c_D2 (callCons 15 c_E9 (callCons 17 c_G6 (callCons 18 c_I7 callNil))))), fun id => bif Nat.beq id 0 then loopAlt shape_B2_0 hook_B2_0 loopNil else (fun id => bif Nat.beq id 2 then loopAlt shape_B2_2 hook_B2_2 loopNil else (fun _ _ _ _ _ => none) id) id, Try.f6.results.toList, maskTab 186 [(0, 0x13878003fe7c0079e79e79980000000000008000000000c), (1, 0x13878003fe7c0079e79e79980000000000008000100000c), (2, 0x10), (3, 0x13878003fe7c0079e79e79980000000000008000000006c), (4, 0x13878003fe7c0079e79e79980000000000008400000002c), (5, 0x10), (6, 0x13878003fe7c0079e79e7998000000000000000000000ac), (7, 0x13878003fe7c0079e79e7998000000000000000000000ac), (8, 0x13878003fe7c0079e79e7998000000000000000000003ac), (9, 0x13878003fe7c0079e79e7998000000000000000000003ac), (10, 0x13878003fe7c0079e79e799800000000000000000000f2c), (11, 0x13878003fe7c0079e79e799800000000000000000000f2c), (12, 0x13878003fe7c0079e79e799800000000000000000003f2c), (13, 0x13878003fe7c0079e79e799800000000000000000007f2c), (14, 0x13878003fe7c0080000000000000000000000000000112c), (15, 0x10), (16, 0x13878003fe7c0600000000000000000000000000000112c), (17, 0x13878003fe7c0e00000000000000000000000000000112c), (18, 0x13878003fe7c0600000000000000000000000000000912c), (19, 0x13878007fe7c0600000000000000000000000000000112c), (20, 0x10), (21, 0x13878003fe7c0600000000000000000000000000000112c), (22, 0x1387800000000000000000000000000000000000001002c), (23, 0x13878380000000000000000000000000000000000010024), (24, 0x13878780000000000000000000000000000000000010024), (25, 0x13878380000000000000000000000000000000000050024), (26, 0x13878380000000000000000000000000000000000010024), (27, 0x13878380000000000000000000000000000000000010024), (28, 0x10)], maskAt [(1, 137), (2, 3), (4, 9), (5, 176), (6, 11), (8, 24), (10, 26), (12, 33), (14, 36), (16, 41), (18, 54), (20, 56), (22, 69), (24, 71), (26, 84), (28, 93), (30, 133), (32, 134), (34, 141), (36, 142), (38, 144), (40, 166), (42, 167), (44, 169), (46, 170), (48, 180), (50, 181), (52, 184), (54, 192), (56, 194)]⟩
theorem step_B2_0_eq (a b c : Rows) (d : Int) (e : SL39_Place) (f g : Int) (i : SRect) (m : Int) (kn : St -> Option R) (kx : Nat -> St -> Option R) (kr : V -> Option R) (n : Nat) (o : Int) :
    loopN env_B2 0 (loopAt Try.f6 0) (st_B2_0 a b c d e f g i m) kn kx kr (n + 1) (st_B2_0 a b c d e f g i o) =
    step_B2_0 a b c d e f g i o (fun j => loopN env_B2 0 (loopAt Try.f6 0) (st_B2_0 a b c d e f g i m) kn kx kr n (st_B2_0 a b c d e f g i j)) (fun j => kn (st_B2_0 a b c d e f g i j)) kr := by kernel_rfl
theorem loop_B2_0_eq (a b c : Rows) (d : Int) (e : SL39_Place) (f g : Int) (i : SRect) (o : Int) (kn : St -> Option R) (kx : Nat -> St -> Option R) (kr : V -> Option R) : ∀ (n : Nat) (j : Int),
    loop_B2_0 a b c d e f g i n j (fun m => kn (st_B2_0 a b c d e f g i m)) kr = loopN env_B2 0 (loopAt Try.f6 0) (st_B2_0 a b c d e f g i o) kn kx kr n (st_B2_0 a b c d e f g i j)
  | 0, _ => rfl
  | n + 1, j => by
    rw [step_B2_0_eq, loop_B2_0]
    congr 1
    funext m
    exact loop_B2_0_eq a b c d e f g i o kn kx kr n m
theorem goodl_B2_0 {rest} (h : GoodL (R := R) env_B2 0 (loopAt Try.f6 0) rest) : GoodL (R := R) env_B2 0 (loopAt Try.f6 0) (loopAlt shape_B2_0 hook_B2_0 rest) := by
  refine goodL_alt (fun l kn kx kr r h => ?_) h
  unfold hook_B2_0 at h
  split at h
  · rename_i b c d e a f g i j m o p q s t u v w y z A B D E F H I J K L M N O Q S U W X
    exact ⟨_, (loop_B2_0_eq b c d e (SL39_Place.mk (SHeader.mk (SRect.mk f g i j) m o p) (SParams.mk q s t u v w y z (SMode.mk A B D E F) H I J K L M) N) O Q (SRect.mk S U W X) a kn kx kr _ a).symm.trans h⟩
  · cases h
theorem step_B2_2_eq (a b : Rows) (c : Int) (d : SL39_Place) (g : Bool) (i : Int) (kn : St -> Option R) (kx : Nat -> St -> Option R) (kr : V -> Option R) (n : Nat) (j : Bool) (m : Int) :
    loopN env_B2 2 (loopAt Try.f6 1) (st_B2_2 a b c d g i) kn kx kr (n + 1) (st_B2_2 a b c d j m) =
    step_B2_2 a b c d j m (fun e f => loopN env_B2 2 (loopAt Try.f6 1) (st_B2_2 a b c d g i) kn kx kr n (st_B2_2 a b c d e f)) (fun e f => kn (st_B2_2 a b c d e f)) := by kernel_rfl
theorem loop_B2_2_eq (a b : Rows) (c : Int) (d : SL39_Place) (j : Bool) (m : Int) (kn : St -> Option R) (kx : Nat -> St -> Option R) (kr : V -> Option R) : ∀ (n : Nat) (e : Bool) (f : Int),
    loop_B2_2 a b c d n e f (fun g i => kn (st_B2_2 a b c d g i)) = loopN env_B2 2 (loopAt Try.f6 1) (st_B2_2 a b c d j m) kn kx kr n (st_B2_2 a b c d e f)
  | 0, _, _ => rfl
  | n + 1, e, f => by
    rw [step_B2_2_eq, loop_B2_2]
    congr 1
    funext g i
    exact loop_B2_2_eq a b c d j m kn kx kr n g i
theorem goodl_B2_2 {rest} (h : GoodL (R := R) env_B2 2 (loopAt Try.f6 1) rest) : GoodL (R := R) env_B2 2 (loopAt Try.f6 1) (loopAlt shape_B2_2 hook_B2_2 rest) := by
  refine goodL_alt (fun l kn kx kr r h => ?_) h
  unfold hook_B2_2 at h
  split at h
  · rename_i c a d e b f g i j m o p q s t u v w y z A B D E F H I J K L M N
    exact ⟨_, (loop_B2_2_eq c d e (SL39_Place.mk (SHeader.mk (SRect.mk f g i j) m o p) (SParams.mk q s t u v w y z (SMode.mk A B D E F) H I J K L M) N) a b kn kx kr _ a b).symm.trans h⟩
  · cases h
theorem good_B2_0 : GoodLoop (R := R) env_B2 0 (loopAt Try.f6 0) := goodL_loop (g := loopAlt shape_B2_0 hook_B2_0 loopNil) (fun _ _ _ _ => rfl) (goodl_B2_0 goodL_nil)
theorem good_B2_2 : GoodLoop (R := R) env_B2 2 (loopAt Try.f6 1) := goodL_loop (g := loopAlt shape_B2_2 hook_B2_2 loopNil) (fun _ _ _ _ => rfl) (goodl_B2_2 goodL_nil)
noncomputable def spec_B2 (a : SL39_Place) (b : SView) (k : V -> Option R) : Option R := let o := m_J9 a.Header a.Params; bif (!o) then let p := m_J0; k (V.bool p) else let c := m_D2 a.Header a.Params a.Tile b; bif (c.2 != 0) then let q := (((List.length c.1) : Nat) : Int); bif ((q == 0) == true) then let r := m_J0; k (V.bool r) else k (V.bool false) else let e := m_D2 a.Header a.Params a.Tile (SView.mk 0 b.Drop (SRect.mk 0 0 0 0)); let f := m_D2 a.Header a.Params a.Tile (SView.mk 0 0 (SRect.mk 0 0 0 0)); let g := m_D2 a.Header a.Params a.Tile (SView.mk 0 b.Drop b.Window); let s := m_G6 a.Header a.Params a.Tile; let d := (((List.length s) : Nat) : Int); let t : Bool := (bif (e.2 != 0) then true else (f.2 != 0)); let u : Bool := (bif t then true else (g.2 != 0)); bif (u == false) then let v := (((List.length c.1) : Nat) : Int); bif ((v != d) == false) then let w := (((List.length e.1) : Nat) : Int); bif ((w != d) == false) then let y := (((List.length g.1) : Nat) : Int); bif ((y != d) == false) then bif (pre_I7 f.1) then let z := m_I7 f.1; bif ((z != d) == false) then let A := (((List.length f.1) : Nat) : Int); bif (A != d) then k (V.bool false) else let j := (((List.length c.1) : Nat) : Int); loop_B2_0 c.1 e.1 g.1 j a 0 b.Drop b.Window (fuel_B2_0 c.1 e.1 g.1 j 0 a 0 b.Drop b.Window) 0 (fun H => let i := m_E9 a.Header (SView.mk 0 b.Drop b.Window); let m := (((List.length i) : Nat) : Int); loop_B2_2 c.1 i m a (fuel_B2_2 c.1 false i m 0 a) false 0 (fun B I => bif (B == false) then bif (pre_I7 c.1) then let D := m_I7 c.1; bif ((D == 0) == true) then let E := m_J0; k (V.bool E) else k (V.bool false) else none else let F := m_J0; k (V.bool F))) k else k (V.bool false) else none else k (V.bool false) else k (V.bool false) else k (V.bool false) else k (V.bool false)
abbrev av_B2 (a : SL39_Place) (b : SView) : List V := [(SL39_Place.v a), (SView.v b)]
theorem spec_B2_eq (a : SL39_Place) (b : SView) (k : V -> Option R) : fnK env_B2 Try.f6 (av_B2 a b) k = spec_B2 a b k := by kernel_rfl
theorem mk_B2 (h_J9 : G_J9) (h_J0 : G_J0) (h_D2 : G_D2) (h_E9 : G_E9) (h_G6 : G_G6) (h_I7 : G_I7) (h : ∀ (a : SL39_Place) (b : SView), Real (av_B2 a b) -> spec_B2 a b some = some (V.bool (m_B2 a b))) : G_B2 := goodHook1 fun l hp => by
  unfold hp_B2 at hp
  split at hp
  · rename_i d f g i j m o p q r s t u v w y z A B D F H I J K L M N O Q S U W
    exact fn_ok (fn := Try.f6) (c := bodyOf Try.f6) (E := env_B2) ⟨by kernel_rfl, (goodCons h_J9 (goodCons h_J0 (goodCons h_D2 (goodCons h_E9 (goodCons h_G6 (goodCons h_I7 goodNil)))))), rfl⟩ rfl (by kernel_rfl) (by kernel_rfl) (by kernel_rfl) (loopsOK_of _ (by have e : loopsOf (bodyOf Try.f6) = [(0, loopAt Try.f6 0), (2, loopAt Try.f6 1)] := (by kernel_rfl); rw [e]; simp only [List.forall_mem_cons, List.not_mem_nil, false_implies, implies_true, and_true]; exact ⟨good_B2_0, good_B2_2⟩)) (fun hr => (spec_B2_eq (SL39_Place.mk (SHeader.mk (SRect.mk d f g i) j m o) (SParams.mk p q r s t u v w (SMode.mk y z A B D) F H I J K L) M) (SView.mk N O (SRect.mk Q S U W)) some).trans (h (SL39_Place.mk (SHeader.mk (SRect.mk d f g i) j m o) (SParams.mk p q r s t u v w (SMode.mk y z A B D) F H I J K L) M) (SView.mk N O (SRect.mk Q S U W)) hr))
  · cases hp
end Go.Vm
