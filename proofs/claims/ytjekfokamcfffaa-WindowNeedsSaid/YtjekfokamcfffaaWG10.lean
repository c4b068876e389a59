import Derived.Test.YtjekfokamcfffaaWM
set_option linter.unusedVariables false
set_option linter.unusedSimpArgs false
set_option maxRecDepth 100000
noncomputable section
namespace Go.Vm
open Go.Proofs
variable {R : Type}
noncomputable def fuel_J8_4 (e f g a b c : Int) (i : SHeader) (j : SParams) (m : Rows) (o : SRect) : Nat := let d := IntKind.wrap .i64 (a * b); Int.toNat (d - c) + 1
noncomputable def step_J8_4 (p d e f g : Int) (q : SHeader) (i : SParams) (j : SRect) (a : Int) (b : Rows) (again : Int -> Rows -> Option R) (kn : Int -> Rows -> Option R) : Option R := let m := IntKind.wrap .i64 (f * g); bif (decide (a < m)) then let c := m_C7 j i d e a; bif (roomOK ((List.length b) + (List.length c)) 72) then let o := IntKind.wrap .i64 (a + 1); again o (b ++ c) else none else kn a b
noncomputable def loop_J8_4 (a b c d e : Int) (f : SHeader) (g : SParams) (i : SRect) : Nat -> Int -> Rows -> (Int -> Rows -> Option R) -> Option R
  | 0, _, _, _ => none
  | n + 1, j, m, kn => step_J8_4 a b c d e f g i j m (fun o p => loop_J8_4 a b c d e f g i n o p kn) kn
noncomputable def shape_J8_4 : ST := ⟨.undef :: .undef :: .int .i64 :: .ptr 0 0 0 :: .ptr 1 0 0 :: .undef :: .undef :: .vs 3 :: .int .i64 :: .ptr 26 0 0 :: .int .i64 :: .undef :: .int .i64 :: .int .i64 :: .int .i64 :: unds 48 [], [(0, .var SHeader.sh false SHeader.ts), (1, .var SParams.sh false SParams.ts), (3, .vec SBlockID.sh false), (26, .var SRect.sh false SRect.ts)], 50⟩
noncomputable def st_J8_4 (d e f g i : Int) (b : SHeader) (a : SParams) (c : SRect) (j : Int) (m : Rows) : St := shape_J8_4.put [.i d, .i e, .i f, .i g, .i i, .i j, .i b.Area.X0, .i b.Area.Y0, .i b.Area.X1, .i b.Area.Y1, .i b.TileW, .i b.TileH, .r b.Components, .i a.Kernel, .i a.Levels, .i a.Color, .i a.BlockX, .i a.BlockY, .r a.Precincts, .i a.Order, .i a.Layers, .b a.Mode.Bypass, .b a.Mode.Restart, .b a.Mode.Reset, .b a.Mode.Causal, .b a.Mode.Symbols, .b a.Divide, .b a.Sync, .b a.Fence, .r a.Steps, .i a.Dead, .i a.Shift, .r m, .i c.X0, .i c.Y0, .i c.X1, .i c.Y1]
noncomputable def hook_J8_4 : LoopG R := fun l kn _ _ => match l with
  | .i a :: .i b :: .i c :: .i d :: .i e :: .i S :: .i f :: .i g :: .i i :: .i j :: .i m :: .i o :: .r p :: .i q :: .i r :: .i s :: .i t :: .i u :: .r v :: .i w :: .i y :: .b z :: .b A :: .b B :: .b D :: .b E :: .b F :: .b H :: .b I :: .r J :: .i K :: .i L :: .r U :: .i M :: .i N :: .i O :: .i Q :: [] => loop_J8_4 a b c d e (SHeader.mk (SRect.mk f g i j) m o p) (SParams.mk q r s t u v w y (SMode.mk z A B D E) F H I J K L) (SRect.mk M N O Q) (fuel_J8_4 a b c d e S (SHeader.mk (SRect.mk f g i j) m o p) (SParams.mk q r s t u v w y (SMode.mk z A B D E) F H I J K L) U (SRect.mk M N O Q)) S U (fun W X => kn (st_J8_4 a b c d e (SHeader.mk (SRect.mk f g i j) m o p) (SParams.mk q r s t u v w y (SMode.mk z A B D E) F H I J K L) (SRect.mk M N O Q) W X))
  | _ => none
noncomputable def fuel_J8_2 (c d a : Int) (e : SHeader) (b : SParams) (f : Rows) (g : SRect) : Nat := let i := decide (a <= b.Levels); Int.toNat (b.Levels - a) + 2
noncomputable def step_J8_2 (f g : Int) (i : SHeader) (b : SParams) (d : SRect) (a : Int) (e : Rows) (again : Int -> Rows -> Option R) (kn : Int -> Rows -> Option R) : Option R := let j := decide (a <= b.Levels); bif j then let c := m_C3 d b a; loop_J8_4 f g a c.2.1 c.2.2 i b d (fuel_J8_4 f g a c.2.1 c.2.2 0 i b e d) 0 e (fun p m => let o := IntKind.wrap .i64 (a + 1); again o m) else kn a e
noncomputable def loop_J8_2 (a b : Int) (c : SHeader) (d : SParams) (e : SRect) : Nat -> Int -> Rows -> (Int -> Rows -> Option R) -> Option R
  | 0, _, _, _ => none
  | n + 1, f, g, kn => step_J8_2 a b c d e f g (fun i j => loop_J8_2 a b c d e n i j kn) kn
noncomputable def shape_J8_2 : ST := ⟨.undef :: .undef :: .int .i64 :: .ptr 0 0 0 :: .ptr 1 0 0 :: .undef :: .undef :: .vs 3 :: .int .i64 :: .ptr 26 0 0 :: .int .i64 :: unds 52 [], [(0, .var SHeader.sh false SHeader.ts), (1, .var SParams.sh false SParams.ts), (3, .vec SBlockID.sh false), (26, .var SRect.sh false SRect.ts)], 29⟩
noncomputable def st_J8_2 (d e : Int) (b : SHeader) (a : SParams) (c : SRect) (f : Int) (g : Rows) : St := shape_J8_2.put [.i d, .i e, .i f, .i b.Area.X0, .i b.Area.Y0, .i b.Area.X1, .i b.Area.Y1, .i b.TileW, .i b.TileH, .r b.Components, .i a.Kernel, .i a.Levels, .i a.Color, .i a.BlockX, .i a.BlockY, .r a.Precincts, .i a.Order, .i a.Layers, .b a.Mode.Bypass, .b a.Mode.Restart, .b a.Mode.Reset, .b a.Mode.Causal, .b a.Mode.Symbols, .b a.Divide, .b a.Sync, .b a.Fence, .r a.Steps, .i a.Dead, .i a.Shift, .r g, .i c.X0, .i c.Y0, .i c.X1, .i c.Y1]
noncomputable def hook_J8_2 : LoopG R := fun l kn _ _ => match l with
  | .i a :: .i b :: .i N :: .i c :: .i d :: .i e :: .i f :: .i g :: .i i :: .r j :: .i m :: .i o :: .i p :: .i q :: .i r :: .r s :: .i t :: .i u :: .b v :: .b w :: .b y :: .b z :: .b A :: .b B :: .b D :: .b E :: .r F :: .i H :: .i I :: .r O :: .i J :: .i K :: .i L :: .i M :: [] => loop_J8_2 a b (SHeader.mk (SRect.mk c d e f) g i j) (SParams.mk m o p q r s t u (SMode.mk v w y z A) B D E F H I) (SRect.mk J K L M) (fuel_J8_2 a b N (SHeader.mk (SRect.mk c d e f) g i j) (SParams.mk m o p q r s t u (SMode.mk v w y z A) B D E F H I) O (SRect.mk J K L M)) N O (fun Q S => kn (st_J8_2 a b (SHeader.mk (SRect.mk c d e f) g i j) (SParams.mk m o p q r s t u (SMode.mk v w y z A) B D E F H I) (SRect.mk J K L M) Q S))
  | _ => none
noncomputable def fuel_J8_0 (d a : Int) (b : SHeader) (e : SParams) (f : Rows) : Nat := let c := (((List.length b.Components) : Nat) : Int); Int.toNat (c - a) + 1
noncomputable def step_J8_0 (c : Int) (b : SHeader) (e : SParams) (a : Int) (d : Rows) (again : Int -> Rows -> Option R) (kn : Int -> Rows -> Option R) : Option R := let g := (((List.length b.Components) : Nat) : Int); bif (decide (a < g)) then let f := m_D7 b c a; loop_J8_2 c a b e f (fuel_J8_2 c a 0 b e d f) 0 d (fun m i => let j := IntKind.wrap .i64 (a + 1); again j i) else kn a d
noncomputable def loop_J8_0 (a : Int) (b : SHeader) (c : SParams) : Nat -> Int -> Rows -> (Int -> Rows -> Option R) -> Option R
  | 0, _, _, _ => none
  | n + 1, d, e, kn => step_J8_0 a b c d e (fun f g => loop_J8_0 a b c n f g kn) kn
noncomputable def shape_J8_0 : ST := ⟨.undef :: .undef :: .int .i64 :: .ptr 0 0 0 :: .ptr 1 0 0 :: .undef :: .undef :: .vs 3 :: .int .i64 :: unds 54 [], [(0, .var SHeader.sh false SHeader.ts), (1, .var SParams.sh false SParams.ts), (3, .vec SBlockID.sh false)], 13⟩
noncomputable def st_J8_0 (c : Int) (b : SHeader) (a : SParams) (d : Int) (e : Rows) : St := shape_J8_0.put [.i c, .i d, .i b.Area.X0, .i b.Area.Y0, .i b.Area.X1, .i b.Area.Y1, .i b.TileW, .i b.TileH, .r b.Components, .i a.Kernel, .i a.Levels, .i a.Color, .i a.BlockX, .i a.BlockY, .r a.Precincts, .i a.Order, .i a.Layers, .b a.Mode.Bypass, .b a.Mode.Restart, .b a.Mode.Reset, .b a.Mode.Causal, .b a.Mode.Symbols, .b a.Divide, .b a.Sync, .b a.Fence, .r a.Steps, .i a.Dead, .i a.Shift, .r e]
noncomputable def hook_J8_0 : LoopG R := fun l kn _ _ => match l with
  | .i a :: .i I :: .i b :: .i c :: .i d :: .i e :: .i f :: .i g :: .r i :: .i j :: .i m :: .i o :: .i p :: .i q :: .r r :: .i s :: .i t :: .b u :: .b v :: .b w :: .b y :: .b z :: .b A :: .b B :: .b D :: .r E :: .i F :: .i H :: .r J :: [] => loop_J8_0 a (SHeader.mk (SRect.mk b c d e) f g i) (SParams.mk j m o p q r s t (SMode.mk u v w y z) A B D E F H) (fuel_J8_0 a I (SHeader.mk (SRect.mk b c d e) f g i) (SParams.mk j m o p q r s t (SMode.mk u v w y z) A B D E F H) J) I J (fun K L => kn (st_J8_0 a (SHeader.mk (SRect.mk b c d e) f g i) (SParams.mk j m o p q r s t (SMode.mk u v w y z) A B D E F H) K L))
  | _ => none
noncomputable def env_J8 : Env R := ⟨Try.prog, callCons 28 c_D7 (callCons 51 c_E0 (callCons 63 c_C3 (callCons 64 c_C7 callNil))), fun id => bif Nat.beq id 4 then loopAlt shape_J8_4 hook_J8_4 loopNil else (fun id => bif Nat.beq id 2 then loopAlt shape_J8_2 hook_J8_2 loopNil else (fun id => bif Nat.beq id 0 then loopAlt shape_J8_0 hook_J8_0 loopNil else (fun _ _ _ _ _ => none) id) id) id, Try.f30.results.toList, maskTab 63 [(0, 0x1c), (1, 0x9c), (2, 0x10009c), (3, 0x40), (4, 0x19c), (5, 0x400019c), (6, 0x19c), (7, 0x39c), (8, 0x79c), (9, 0x100000079c), (10, 0x79c), (11, 0x379c), (12, 0x779c), (13, 0x800000000779c), (14, 0x779c), (15, 0x779c), (16, 0x40)], maskAt [(1, 13), (2, 3), (4, 5), (5, 29), (6, 10), (8, 12), (9, 50), (10, 17), (12, 74), (14, 22), (16, 28), (18, 33), (20, 71), (22, 37), (24, 49), (26, 54), (28, 68), (30, 59), (32, 77)]⟩
theorem step_J8_4_eq (a b c d e : Int) (f : SHeader) (g : SParams) (i : SRect) (o : Int) (p : Rows) (kn : St -> Option R) (kx : Nat -> St -> Option R) (kr : V -> Option R) (n : Nat) (q : Int) (r : Rows) :
    loopN env_J8 4 (loopAt Try.f30 2) (st_J8_4 a b c d e f g i o p) kn kx kr (n + 1) (st_J8_4 a b c d e f g i q r) =
    step_J8_4 a b c d e f g i q r (fun j m => loopN env_J8 4 (loopAt Try.f30 2) (st_J8_4 a b c d e f g i o p) kn kx kr n (st_J8_4 a b c d e f g i j m)) (fun j m => kn (st_J8_4 a b c d e f g i j m)) := by kernel_rfl
theorem loop_J8_4_eq (a b c d e : Int) (f : SHeader) (g : SParams) (i : SRect) (q : Int) (r : Rows) (kn : St -> Option R) (kx : Nat -> St -> Option R) (kr : V -> Option R) : ∀ (n : Nat) (j : Int) (m : Rows),
    loop_J8_4 a b c d e f g i n j m (fun o p => kn (st_J8_4 a b c d e f g i o p)) = loopN env_J8 4 (loopAt Try.f30 2) (st_J8_4 a b c d e f g i q r) kn kx kr n (st_J8_4 a b c d e f g i j m)
  | 0, _, _ => rfl
  | n + 1, j, m => by
    rw [step_J8_4_eq, loop_J8_4]
    congr 1
    funext o p
    exact loop_J8_4_eq a b c d e f g i q r kn kx kr n o p
theorem goodl_J8_4 {rest} (h : GoodL (R := R) env_J8 4 (loopAt Try.f30 2) rest) : GoodL (R := R) env_J8 4 (loopAt Try.f30 2) (loopAlt shape_J8_4 hook_J8_4 rest) := by
  refine goodL_alt (fun l kn kx kr r h => ?_) h
  unfold hook_J8_4 at h
  split at h
  · rename_i c d e f g a i j m o p q s t u v w y z A B D E F H I J K L M N O b Q S U W
    exact ⟨_, (loop_J8_4_eq c d e f g (SHeader.mk (SRect.mk i j m o) p q s) (SParams.mk t u v w y z A B (SMode.mk D E F H I) J K L M N O) (SRect.mk Q S U W) a b kn kx kr _ a b).symm.trans h⟩
  · cases h
theorem step_J8_2_eq (a b : Int) (c : SHeader) (d : SParams) (e : SRect) (i : Int) (j : Rows) (kn : St -> Option R) (kx : Nat -> St -> Option R) (kr : V -> Option R) (n : Nat) (m : Int) (o : Rows) :
    loopN env_J8 2 (loopAt Try.f30 1) (st_J8_2 a b c d e i j) kn kx kr (n + 1) (st_J8_2 a b c d e m o) =
    step_J8_2 a b c d e m o (fun f g => loopN env_J8 2 (loopAt Try.f30 1) (st_J8_2 a b c d e i j) kn kx kr n (st_J8_2 a b c d e f g)) (fun f g => kn (st_J8_2 a b c d e f g)) := by kernel_rfl
theorem loop_J8_2_eq (a b : Int) (c : SHeader) (d : SParams) (e : SRect) (m : Int) (o : Rows) (kn : St -> Option R) (kx : Nat -> St -> Option R) (kr : V -> Option R) : ∀ (n : Nat) (f : Int) (g : Rows),
    loop_J8_2 a b c d e n f g (fun i j => kn (st_J8_2 a b c d e i j)) = loopN env_J8 2 (loopAt Try.f30 1) (st_J8_2 a b c d e m o) kn kx kr n (st_J8_2 a b c d e f g)
  | 0, _, _ => rfl
  | n + 1, f, g => by
    rw [step_J8_2_eq, loop_J8_2]
    congr 1
    funext i j
    exact loop_J8_2_eq a b c d e m o kn kx kr n i j
theorem goodl_J8_2 {rest} (h : GoodL (R := R) env_J8 2 (loopAt Try.f30 1) rest) : GoodL (R := R) env_J8 2 (loopAt Try.f30 1) (loopAlt shape_J8_2 hook_J8_2 rest) := by
  refine goodL_alt (fun l kn kx kr r h => ?_) h
  unfold hook_J8_2 at h
  split at h
  · rename_i c d a e f g i j m o p q s t u v w y z A B D E F H I J K L b M N O Q
    exact ⟨_, (loop_J8_2_eq c d (SHeader.mk (SRect.mk e f g i) j m o) (SParams.mk p q s t u v w y (SMode.mk z A B D E) F H I J K L) (SRect.mk M N O Q) a b kn kx kr _ a b).symm.trans h⟩
  · cases h
theorem step_J8_0_eq (a : Int) (b : SHeader) (c : SParams) (f : Int) (g : Rows) (kn : St -> Option R) (kx : Nat -> St -> Option R) (kr : V -> Option R) (n : Nat) (i : Int) (j : Rows) :
    loopN env_J8 0 (loopAt Try.f30 0) (st_J8_0 a b c f g) kn kx kr (n + 1) (st_J8_0 a b c i j) =
    step_J8_0 a b c i j (fun d e => loopN env_J8 0 (loopAt Try.f30 0) (st_J8_0 a b c f g) kn kx kr n (st_J8_0 a b c d e)) (fun d e => kn (st_J8_0 a b c d e)) := by kernel_rfl
theorem loop_J8_0_eq (a : Int) (b : SHeader) (c : SParams) (i : Int) (j : Rows) (kn : St -> Option R) (kx : Nat -> St -> Option R) (kr : V -> Option R) : ∀ (n : Nat) (d : Int) (e : Rows),
    loop_J8_0 a b c n d e (fun f g => kn (st_J8_0 a b c f g)) = loopN env_J8 0 (loopAt Try.f30 0) (st_J8_0 a b c i j) kn kx kr n (st_J8_0 a b c d e)
  | 0, _, _ => rfl
  | n + 1, d, e => by
    rw [step_J8_0_eq, loop_J8_0]
    congr 1
    funext f g
    exact loop_J8_0_eq a b c i j kn kx kr n f g
theorem goodl_J8_0 {rest} (h : GoodL (R := R) env_J8 0 (loopAt Try.f30 0) rest) : GoodL (R := R) env_J8 0 (loopAt Try.f30 0) (loopAlt shape_J8_0 hook_J8_0 rest) := by
  refine goodL_alt (fun l kn kx kr r h => ?_) h
  unfold hook_J8_0 at h
  split at h
  · rename_i c a d e f g i j m o p q s t u v w y z A B D E F H I J K b
    exact ⟨_, (loop_J8_0_eq c (SHeader.mk (SRect.mk d e f g) i j m) (SParams.mk o p q s t u v w (SMode.mk y z A B D) E F H I J K) a b kn kx kr _ a b).symm.trans h⟩
  · cases h
theorem good_J8_0 : GoodLoop (R := R) env_J8 0 (loopAt Try.f30 0) := goodL_loop (g := loopAlt shape_J8_0 hook_J8_0 loopNil) (fun _ _ _ _ => rfl) (goodl_J8_0 goodL_nil)
theorem good_J8_2 : GoodLoop (R := R) env_J8 2 (loopAt Try.f30 1) := goodL_loop (g := loopAlt shape_J8_2 hook_J8_2 loopNil) (fun _ _ _ _ => rfl) (goodl_J8_2 goodL_nil)
theorem good_J8_4 : GoodLoop (R := R) env_J8 4 (loopAt Try.f30 2) := goodL_loop (g := loopAlt shape_J8_4 hook_J8_4 loopNil) (fun _ _ _ _ => rfl) (goodl_J8_4 goodL_nil)
noncomputable def spec_J8 (a : SHeader) (b : SParams) (c : Int) (k : V -> Option R) : Option R := let d := m_E0 a b c 0; bif (!d) then k (V.data SBlockID.sh []) else loop_J8_0 c a b (fuel_J8_0 c 0 a b []) 0 [] (fun f e => k (V.data SBlockID.sh e))
abbrev av_J8 (a : SHeader) (b : SParams) (c : Int) : List V := [(SHeader.v a), (SParams.v b), V.int .i64 c]
theorem spec_J8_eq (a : SHeader) (b : SParams) (c : Int) (k : V -> Option R) : fnK env_J8 Try.f30 (av_J8 a b c) k = spec_J8 a b c k := by kernel_rfl
theorem mk_J8 (h_D7 : G_D7) (h_E0 : G_E0) (h_C3 : G_C3) (h_C7 : G_C7) (h : ∀ (a : SHeader) (b : SParams) (d : Int), Real (av_J8 a b d) -> spec_J8 a b d some = some (V.data SBlockID.sh (m_J8 a b d))) : G_J8 := goodHook1 fun l hp => by
  unfold hp_J8 at hp
  split at hp
  · rename_i f g i j m o p q r s t u v w y z A B D F H I J K L M N
    exact fn_ok (fn := Try.f30) (c := bodyOf Try.f30) (E := env_J8) ⟨by kernel_rfl, (goodCons h_D7 (goodCons h_E0 (goodCons h_C3 (goodCons h_C7 goodNil)))), rfl⟩ rfl (by kernel_rfl) (by kernel_rfl) (by kernel_rfl) (loopsOK_of _ (by have e : loopsOf (bodyOf Try.f30) = [(0, loopAt Try.f30 0), (2, loopAt Try.f30 1), (4, loopAt Try.f30 2)] := (by kernel_rfl); rw [e]; simp only [List.forall_mem_cons, List.not_mem_nil, false_implies, implies_true, and_true]; exact ⟨good_J8_0, good_J8_2, good_J8_4⟩)) (fun hr => (spec_J8_eq (SHeader.mk (SRect.mk f g i j) m o p) (SParams.mk q r s t u v w y (SMode.mk z A B D F) H I J K L M) N some).trans (h (SHeader.mk (SRect.mk f g i j) m o p) (SParams.mk q r s t u v w y (SMode.mk z A B D F) H I J K L M) N hr))
  · cases hp
noncomputable def fuel_H0_0 (d a : Int) (b : SHeader) (e : SParams) (f : SView) (g : Rows) : Nat := let c := (((List.length b.Components) : Nat) : Int); Int.toNat (c - a) + 1
noncomputable def step_H0_0 (c : Int) (b : SHeader) (d : SParams) (e : SView) (a : Int) (f : Rows) (again : Int -> Rows -> Option R) (kn : Int -> Rows -> Option R) : Option R := let g := (((List.length b.Components) : Nat) : Int); bif (decide (a < g)) then let i := m_D7 b c a; let j := IntKind.wrap .i64 (d.Levels - e.Drop); bif (pre_G6 b c a e) then let m := m_G6 b c a e; let o := m_J5 i d.Levels j m d.Kernel; bif (roomOK ((List.length f) + (1 : Nat)) 24) then let p := f ++ [[V.data SRect.sh o]]; let q := IntKind.wrap .i64 (a + 1); again q p else none else none else kn a f
noncomputable def loop_H0_0 (a : Int) (b : SHeader) (c : SParams) (d : SView) : Nat -> Int -> Rows -> (Int -> Rows -> Option R) -> Option R
  | 0, _, _, _ => none
  | n + 1, e, f, kn => step_H0_0 a b c d e f (fun g i => loop_H0_0 a b c d n g i kn) kn
noncomputable def shape_H0_0 : ST := ⟨.undef :: .undef :: .int .i64 :: .undef :: .ptr 0 0 0 :: .ptr 1 0 0 :: .undef :: .ptr 2 0 0 :: unds 4 (.vs 31 :: .int .i64 :: unds 90 []), [(0, .var SHeader.sh false SHeader.ts), (1, .var SParams.sh false SParams.ts), (2, .var SView.sh false SView.ts), (31, .vec [.sl SRect.sh] false)], 34⟩
noncomputable def st_H0_0 (d : Int) (b : SHeader) (a : SParams) (c : SView) (e : Int) (f : Rows) : St := shape_H0_0.put [.i d, .i e, .i b.Area.X0, .i b.Area.Y0, .i b.Area.X1, .i b.Area.Y1, .i b.TileW, .i b.TileH, .r b.Components, .i a.Kernel, .i a.Levels, .i a.Color, .i a.BlockX, .i a.BlockY, .r a.Precincts, .i a.Order, .i a.Layers, .b a.Mode.Bypass, .b a.Mode.Restart, .b a.Mode.Reset, .b a.Mode.Causal, .b a.Mode.Symbols, .b a.Divide, .b a.Sync, .b a.Fence, .r a.Steps, .i a.Dead, .i a.Shift, .i c.Layers, .i c.Drop, .i c.Window.X0, .i c.Window.Y0, .i c.Window.X1, .i c.Window.Y1, .r f]
noncomputable def hook_H0_0 : LoopG R := fun l kn _ _ => match l with
  | .i a :: .i O :: .i b :: .i c :: .i d :: .i e :: .i f :: .i g :: .r i :: .i j :: .i m :: .i o :: .i p :: .i q :: .r r :: .i s :: .i t :: .b u :: .b v :: .b w :: .b y :: .b z :: .b A :: .b B :: .b D :: .r E :: .i F :: .i H :: .i I :: .i J :: .i K :: .i L :: .i M :: .i N :: .r Q :: [] => loop_H0_0 a (SHeader.mk (SRect.mk b c d e) f g i) (SParams.mk j m o p q r s t (SMode.mk u v w y z) A B D E F H) (SView.mk I J (SRect.mk K L M N)) (fuel_H0_0 a O (SHeader.mk (SRect.mk b c d e) f g i) (SParams.mk j m o p q r s t (SMode.mk u v w y z) A B D E F H) (SView.mk I J (SRect.mk K L M N)) Q) O Q (fun S U => kn (st_H0_0 a (SHeader.mk (SRect.mk b c d e) f g i) (SParams.mk j m o p q r s t (SMode.mk u v w y z) A B D E F H) (SView.mk I J (SRect.mk K L M N)) S U))
  | _ => none
noncomputable def fuel_H0_2 (a : Rows) (b : Int) (d e : Rows) : Nat := let c := (((List.length a) : Nat) : Int); Int.toNat (c - b) + 1
noncomputable def step_H0_2 (b e : Rows) (a : Int) (d : Rows) (again : Int -> Rows -> Option R) (kn : Int -> Rows -> Option R) : Option R := let j := (((List.length b) : Nat) : Int); bif (decide (a < j)) then bif (inR a (List.length b)) then let c := List.getD b (Int.toNat a) []; let m := V.toInt (List.getD c 5 V.undef); let o := V.toInt (List.getD c 6 V.undef); let p := V.toInt (List.getD c 7 V.undef); let q := V.toInt (List.getD c 8 V.undef); bif (inR a (List.length b)) then let r := List.getD b (Int.toNat a) []; let f := V.toInt (List.getD r 0 V.undef); bif (inR f (List.length e)) then let g := V.toRows (List.getD (List.getD e (Int.toNat f) []) 0 V.undef); bif (inR a (List.length b)) then let s := List.getD b (Int.toNat a) []; let i := V.toInt (List.getD s 2 V.undef); bif (inR i (List.length g)) then let t := List.getD g (Int.toNat i) []; let u := SRect.of t; let v := m_D9 (SRect.mk m o p q) u; let w := m_H8 v; bif (roomOK ((List.length d) + (1 : Nat)) 1) then let y := d ++ [[(V.bool (!w))]]; let z := IntKind.wrap .i64 (a + 1); again z y else none else none else none else none else none else none else kn a d
noncomputable def loop_H0_2 (a b : Rows) : Nat -> Int -> Rows -> (Int -> Rows -> Option R) -> Option R
  | 0, _, _, _ => none
  | n + 1, c, d, kn => step_H0_2 a b c d (fun e f => loop_H0_2 a b n e f kn) kn
noncomputable def shape_H0_2 : ST := ⟨unds 12 (.vs 31 :: .undef :: .vs 69 :: .data SBlockID.sh :: .int .i64 :: unds 87 []), [(31, .vec [.sl SRect.sh] false), (69, .vec [.bool] false)], 77⟩
noncomputable def st_H0_2 (a b : Rows) (c : Int) (d : Rows) : St := shape_H0_2.put [.r a, .i c, .r b, .r d]
noncomputable def hook_H0_2 : LoopG R := fun l kn _ _ => match l with
  | .r a :: .i c :: .r b :: .r d :: [] => loop_H0_2 a b (fuel_H0_2 a c b d) c d (fun e f => kn (st_H0_2 a b e f))
  | _ => none
noncomputable def env_H0 : Env R := ⟨Try.prog, callCons 20 c_I2 (callCons 26 c_F6 (callCons 27 c_J5 (callCons 28 c_D7 (callCons 29 c_G6 (callCons 30 c_J8 (callCons 31 c_H8 (callCons 32 c_D9 callNil))))))), fun id => bif Nat.beq id 0 then loopAlt shape_H0_0 hook_H0_0 loopNil else (fun id => bif Nat.beq id 2 then loopAlt shape_H0_2 hook_H0_2 loopNil else (fun _ _ _ _ _ => none) id) id, Try.f14.results.toList, maskTab 104 [(0, 0x7c00000b4), (1, 0x7c00008b4), (2, 0x7c20008b4), (3, 0x300), (4, 0x8000000b4), (5, 0x300), (6, 0x10b4), (7, 0x30b4), (8, 0x200000030b4), (9, 0x30b4), (10, 0x30b4), (11, 0x5034), (12, 0xd000), (13, 0x1d000), (14, 0x400000000000001d000), (15, 0x1d000), (16, 0x1d000), (17, 0x300)], maskAt [(1, 34), (2, 5), (4, 15), (5, 77), (6, 17), (8, 20), (10, 29), (12, 31), (14, 33), (16, 38), (18, 66), (20, 43), (22, 69), (24, 71), (26, 76), (28, 81), (30, 112), (32, 85), (34, 115)]⟩
theorem step_H0_0_eq (a : Int) (b : SHeader) (c : SParams) (d : SView) (g : Int) (i : Rows) (kn : St -> Option R) (kx : Nat -> St -> Option R) (kr : V -> Option R) (n : Nat) (j : Int) (m : Rows) :
    loopN env_H0 0 (loopAt Try.f14 0) (st_H0_0 a b c d g i) kn kx kr (n + 1) (st_H0_0 a b c d j m) =
    step_H0_0 a b c d j m (fun e f => loopN env_H0 0 (loopAt Try.f14 0) (st_H0_0 a b c d g i) kn kx kr n (st_H0_0 a b c d e f)) (fun e f => kn (st_H0_0 a b c d e f)) := by kernel_rfl
theorem loop_H0_0_eq (a : Int) (b : SHeader) (c : SParams) (d : SView) (j : Int) (m : Rows) (kn : St -> Option R) (kx : Nat -> St -> Option R) (kr : V -> Option R) : ∀ (n : Nat) (e : Int) (f : Rows),
    loop_H0_0 a b c d n e f (fun g i => kn (st_H0_0 a b c d g i)) = loopN env_H0 0 (loopAt Try.f14 0) (st_H0_0 a b c d j m) kn kx kr n (st_H0_0 a b c d e f)
  | 0, _, _ => rfl
  | n + 1, e, f => by
    rw [step_H0_0_eq, loop_H0_0]
    congr 1
    funext g i
    exact loop_H0_0_eq a b c d j m kn kx kr n g i
theorem goodl_H0_0 {rest} (h : GoodL (R := R) env_H0 0 (loopAt Try.f14 0) rest) : GoodL (R := R) env_H0 0 (loopAt Try.f14 0) (loopAlt shape_H0_0 hook_H0_0 rest) := by
  refine goodL_alt (fun l kn kx kr r h => ?_) h
  unfold hook_H0_0 at h
  split at h
  · rename_i c a d e f g i j m o p q s t u v w y z A B D E F H I J K L M N O Q S b
    exact ⟨_, (loop_H0_0_eq c (SHeader.mk (SRect.mk d e f g) i j m) (SParams.mk o p q s t u v w (SMode.mk y z A B D) E F H I J K) (SView.mk L M (SRect.mk N O Q S)) a b kn kx kr _ a b).symm.trans h⟩
  · cases h
theorem step_H0_2_eq (a b : Rows) (e : Int) (f : Rows) (kn : St -> Option R) (kx : Nat -> St -> Option R) (kr : V -> Option R) (n : Nat) (g : Int) (i : Rows) :
    loopN env_H0 2 (loopAt Try.f14 1) (st_H0_2 a b e f) kn kx kr (n + 1) (st_H0_2 a b g i) =
    step_H0_2 a b g i (fun c d => loopN env_H0 2 (loopAt Try.f14 1) (st_H0_2 a b e f) kn kx kr n (st_H0_2 a b c d)) (fun c d => kn (st_H0_2 a b c d)) := by kernel_rfl
theorem loop_H0_2_eq (a b : Rows) (g : Int) (i : Rows) (kn : St -> Option R) (kx : Nat -> St -> Option R) (kr : V -> Option R) : ∀ (n : Nat) (c : Int) (d : Rows),
    loop_H0_2 a b n c d (fun e f => kn (st_H0_2 a b e f)) = loopN env_H0 2 (loopAt Try.f14 1) (st_H0_2 a b g i) kn kx kr n (st_H0_2 a b c d)
  | 0, _, _ => rfl
  | n + 1, c, d => by
    rw [step_H0_2_eq, loop_H0_2]
    congr 1
    funext e f
    exact loop_H0_2_eq a b g i kn kx kr n e f
theorem goodl_H0_2 {rest} (h : GoodL (R := R) env_H0 2 (loopAt Try.f14 1) rest) : GoodL (R := R) env_H0 2 (loopAt Try.f14 1) (loopAlt shape_H0_2 hook_H0_2 rest) := by
  refine goodL_alt (fun l kn kx kr r h => ?_) h
  unfold hook_H0_2 at h
  split at h
  · rename_i c a d b
    exact ⟨_, (loop_H0_2_eq c d a b kn kx kr _ a b).symm.trans h⟩
  · cases h
theorem good_H0_0 : GoodLoop (R := R) env_H0 0 (loopAt Try.f14 0) := goodL_loop (g := loopAlt shape_H0_0 hook_H0_0 loopNil) (fun _ _ _ _ => rfl) (goodl_H0_0 goodL_nil)
theorem good_H0_2 : GoodLoop (R := R) env_H0 2 (loopAt Try.f14 1) := goodL_loop (g := loopAlt shape_H0_2 hook_H0_2 loopNil) (fun _ _ _ _ => rfl) (goodl_H0_2 goodL_nil)
noncomputable def spec_H0 (a : SHeader) (b : SParams) (c : Int) (d : SView) (k : V -> Option R) : Option R := bif (pre_F6 a b d) then let e := m_F6 a b d; bif (e.2 != 0) then k (V.tup [(V.data [.bool] []), V.int .i64 e.2]) else let i := decide (c < 0); bif (i == false) then let j := m_I2 a; let m := (((List.length j) : Nat) : Int); bif (decide (c >= m)) then k (V.tup [(V.data [.bool] []), (V.int .i64 14)]) else loop_H0_0 c a b d (fuel_H0_0 c 0 a b d []) 0 [] (fun p f => let g := m_J8 a b c; loop_H0_2 g f (fuel_H0_2 g 0 f []) 0 [] (fun q o => k (V.tup [(V.data [.bool] o), (V.int .i64 0)]))) else k (V.tup [(V.data [.bool] []), (V.int .i64 14)]) else none
abbrev av_H0 (a : SHeader) (b : SParams) (c : Int) (d : SView) : List V := [(SHeader.v a), (SParams.v b), V.int .i64 c, (SView.v d)]
theorem spec_H0_eq (a : SHeader) (b : SParams) (c : Int) (d : SView) (k : V -> Option R) : fnK env_H0 Try.f14 (av_H0 a b c d) k = spec_H0 a b c d k := by kernel_rfl
theorem mk_H0 (h_I2 : G_I2) (h_F6 : G_F6) (h_J5 : G_J5) (h_D7 : G_D7) (h_G6 : G_G6) (h_J8 : G_J8) (h_H8 : G_H8) (h_D9 : G_D9) (h : ∀ (a : SHeader) (b : SParams) (d : Int) (f : SView), Real (av_H0 a b d f) -> spec_H0 a b d f some = some (V.tup [(V.data [.bool] (m_H0 a b d f).1), (V.int .i64 (m_H0 a b d f).2)])) : G_H0 := goodHook1 fun l hp => by
  unfold hp_H0 at hp
  split at hp
  · rename_i g i j m o p q r s t u v w y z A B D F H I J K L M N O Q S U W X Y
    exact fn_ok (fn := Try.f14) (c := bodyOf Try.f14) (E := env_H0) ⟨by kernel_rfl, (goodCons h_I2 (goodCons h_F6 (goodCons h_J5 (goodCons h_D7 (goodCons h_G6 (goodCons h_J8 (goodCons h_H8 (goodCons h_D9 goodNil)))))))), rfl⟩ rfl (by kernel_rfl) (by kernel_rfl) (by kernel_rfl) (loopsOK_of _ (by have e : loopsOf (bodyOf Try.f14) = [(0, loopAt Try.f14 0), (2, loopAt Try.f14 1)] := (by kernel_rfl); rw [e]; simp only [List.forall_mem_cons, List.not_mem_nil, false_implies, implies_true, and_true]; exact ⟨good_H0_0, good_H0_2⟩)) (fun hr => (spec_H0_eq (SHeader.mk (SRect.mk g i j m) o p q) (SParams.mk r s t u v w y z (SMode.mk A B D F H) I J K L M N) O (SView.mk Q S (SRect.mk U W X Y)) some).trans (h (SHeader.mk (SRect.mk g i j m) o p q) (SParams.mk r s t u v w y z (SMode.mk A B D F H) I J K L M N) O (SView.mk Q S (SRect.mk U W X Y)) hr))
  · cases hp
noncomputable def fuel_B3_0 (c d : Rows) (a b : Int) : Nat := Int.toNat (a - b) + 1
noncomputable def step_B3_0 (b c : Rows) (d : Int) (a : Int) (again : Int -> Option R) (kn : Int -> Option R) (kr : V -> Option R) : Option R := bif (decide (a < d)) then bif (inR a (List.length b)) then let e := List.getD b (Int.toNat a) []; let f := V.toBool (List.getD e 0 V.undef); bif (inR a (List.length c)) then let g := List.getD c (Int.toNat a) []; let i := V.toBool (List.getD g 0 V.undef); bif (!(f == i)) then kr (V.bool false) else let j := IntKind.wrap .i64 (a + 1); again j else none else none else kn a
noncomputable def loop_B3_0 (a b : Rows) (c : Int) : Nat -> Int -> (Int -> Option R) -> (V -> Option R) -> Option R
  | 0, _, _, _ => none
  | n + 1, d, kn, kr => step_B3_0 a b c d (fun e => loop_B3_0 a b c n e kn kr) kn kr
noncomputable def shape_B3_0 : ST := ⟨unds 5 (.data [.bool] :: .undef :: .data [.bool] :: unds 42 (.int .i64 :: .int .i64 :: unds 13 [])), [], 51⟩
noncomputable def st_B3_0 (a b : Rows) (c : Int) (d : Int) : St := shape_B3_0.put [.r a, .r b, .i c, .i d]
noncomputable def hook_B3_0 : LoopG R := fun l kn _ kr => match l with
  | .r a :: .r b :: .i c :: .i d :: [] => loop_B3_0 a b c (fuel_B3_0 a b c d) d (fun e => kn (st_B3_0 a b c e)) kr
  | _ => none
noncomputable def env_B3 : Env R := ⟨Try.prog, callCons 11 c_J9 (callCons 12 c_H9 (callCons 13 c_D4 (callCons 14 c_H0 callNil))), fun id => bif Nat.beq id 0 then loopAlt shape_B3_0 hook_B3_0 loopNil else (fun _ _ _ _ _ => none) id, Try.f4.results.toList, maskTab 65 [(0, 0xe0000000000c), (1, 0xe0000000800c), (2, 0x10), (3, 0xe0000000006c), (4, 0xe000000001e0), (5, 0x10000000000a0), (6, 0x10), (7, 0xc0000000000a0), (8, 0x1c0000000000a0), (9, 0xc0000000002a0), (10, 0x400c0000000000a0), (11, 0x10), (12, 0xc0000000000a0), (13, 0x10)], maskAt [(1, 51), (2, 3), (4, 9), (6, 11), (8, 24), (10, 37), (12, 47), (14, 48), (16, 55), (18, 56), (20, 58), (22, 67), (24, 68), (26, 70)]⟩
theorem step_B3_0_eq (a b : Rows) (c : Int) (e : Int) (kn : St -> Option R) (kx : Nat -> St -> Option R) (kr : V -> Option R) (n : Nat) (f : Int) :
    loopN env_B3 0 (loopAt Try.f4 0) (st_B3_0 a b c e) kn kx kr (n + 1) (st_B3_0 a b c f) =
    step_B3_0 a b c f (fun d => loopN env_B3 0 (loopAt Try.f4 0) (st_B3_0 a b c e) kn kx kr n (st_B3_0 a b c d)) (fun d => kn (st_B3_0 a b c d)) kr := by kernel_rfl
theorem loop_B3_0_eq (a b : Rows) (c : Int) (f : Int) (kn : St -> Option R) (kx : Nat -> St -> Option R) (kr : V -> Option R) : ∀ (n : Nat) (d : Int),
    loop_B3_0 a b c n d (fun e => kn (st_B3_0 a b c e)) kr = loopN env_B3 0 (loopAt Try.f4 0) (st_B3_0 a b c f) kn kx kr n (st_B3_0 a b c d)
  | 0, _ => rfl
  | n + 1, d => by
    rw [step_B3_0_eq, loop_B3_0]
    congr 1
    funext e
    exact loop_B3_0_eq a b c f kn kx kr n e
theorem goodl_B3_0 {rest} (h : GoodL (R := R) env_B3 0 (loopAt Try.f4 0) rest) : GoodL (R := R) env_B3 0 (loopAt Try.f4 0) (loopAlt shape_B3_0 hook_B3_0 rest) := by
  refine goodL_alt (fun l kn kx kr r h => ?_) h
  unfold hook_B3_0 at h
  split at h
  · rename_i b c d a
    exact ⟨_, (loop_B3_0_eq b c d a kn kx kr _ a).symm.trans h⟩
  · cases h
theorem good_B3_0 : GoodLoop (R := R) env_B3 0 (loopAt Try.f4 0) := goodL_loop (g := loopAlt shape_B3_0 hook_B3_0 loopNil) (fun _ _ _ _ => rfl) (goodl_B3_0 goodL_nil)
noncomputable def spec_B3 (a : SL39_Place) (d : SView) (k : V -> Option R) : Option R := let f := m_J9 a.Header a.Params; bif (!f) then let g := m_H9; k (V.bool g) else let b := m_D4 a.Header a.Params a.Tile d; let c := m_H0 a.Header a.Params a.Tile d; let i := (((List.length b.1) : Nat) : Int); let j := (((List.length c.1) : Nat) : Int); let m : Bool := (bif (i != j) then true else (b.2 != c.2)); bif m then k (V.bool false) else let e := (((List.length b.1) : Nat) : Int); loop_B3_0 b.1 c.1 e (fuel_B3_0 b.1 c.1 e 0) 0 (fun p => let o := m_H9; k (V.bool o)) k
abbrev av_B3 (a : SL39_Place) (b : SView) : List V := [(SL39_Place.v a), (SView.v b)]
theorem spec_B3_eq (a : SL39_Place) (b : SView) (k : V -> Option R) : fnK env_B3 Try.f4 (av_B3 a b) k = spec_B3 a b k := by kernel_rfl
theorem mk_B3 (h_J9 : G_J9) (h_H9 : G_H9) (h_D4 : G_D4) (h_H0 : G_H0) (h : ∀ (a : SL39_Place) (b : SView), Real (av_B3 a b) -> spec_B3 a b some = some (V.bool (m_B3 a b))) : G_B3 := goodHook1 fun l hp => by
  unfold hp_B3 at hp
  split at hp
  · rename_i d f g i j m o p q r s t u v w y z A B D F H I J K L M N O Q S U W
    exact fn_ok (fn := Try.f4) (c := bodyOf Try.f4) (E := env_B3) ⟨by kernel_rfl, (goodCons h_J9 (goodCons h_H9 (goodCons h_D4 (goodCons h_H0 goodNil)))), rfl⟩ rfl (by kernel_rfl) (by kernel_rfl) (by kernel_rfl) (loopsOK_of _ (by have e : loopsOf (bodyOf Try.f4) = [(0, loopAt Try.f4 0)] := (by kernel_rfl); rw [e]; simp only [List.forall_mem_cons, List.not_mem_nil, false_implies, implies_true, and_true]; exact good_B3_0)) (fun hr => (spec_B3_eq (SL39_Place.mk (SHeader.mk (SRect.mk d f g i) j m o) (SParams.mk p q r s t u v w (SMode.mk y z A B D) F H I J K L) M) (SView.mk N O (SRect.mk Q S U W)) some).trans (h (SL39_Place.mk (SHeader.mk (SRect.mk d f g i) j m o) (SParams.mk p q r s t u v w (SMode.mk y z A B D) F H I J K L) M) (SView.mk N O (SRect.mk Q S U W)) hr))
  · cases hp
end Go.Vm
