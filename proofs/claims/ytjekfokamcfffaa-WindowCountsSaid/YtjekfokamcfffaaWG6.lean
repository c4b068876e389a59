import Derived.Test.YtjekfokamcfffaaWM
set_option linter.unusedVariables false
set_option linter.unusedSimpArgs false
set_option maxRecDepth 100000
noncomputable section
namespace Go.Vm
open Go.Proofs
variable {R : Type}
noncomputable def fuel_G6_4 (c d e f g a b : Int) (i : SHeader) (j : SParams) (m : Rows) : Nat := Int.toNat (a - b) + 1
noncomputable def step_G6_4 (c d e p q f : Int) (g : SHeader) (i : SParams) (a : Int) (b : Rows) (again : Int -> Rows -> Option R) (kn : Int -> Rows -> Option R) : Option R := bif (decide (a < f)) then let j := m_B8 g i c (SPacketID.mk d e a 0); bif (roomOK ((List.length b) + (1 : Nat)) 24) then let m := b ++ [[V.data SBlockID.sh j]]; let o := IntKind.wrap .i64 (a + 1); again o m else none else kn a b
noncomputable def loop_G6_4 (a b c d e f : Int) (g : SHeader) (i : SParams) : Nat -> Int -> Rows -> (Int -> Rows -> Option R) -> Option R
  | 0, _, _, _ => none
  | n + 1, j, m, kn => step_G6_4 a b c d e f g i j m (fun o p => loop_G6_4 a b c d e f g i n o p kn) kn
noncomputable def shape_G6_4 : ST := ⟨.undef :: .undef :: .int .i64 :: .ptr 0 0 0 :: .ptr 1 0 0 :: .undef :: .undef :: .vs 14 :: .int .i64 :: .int .i64 :: unds 11 (.int .i64 :: .int .i64 :: unds 20 (.int .i64 :: .int .i64 :: unds 17 [])), [(0, .var SHeader.sh false SHeader.ts), (1, .var SParams.sh false SParams.ts), (14, .vec [.sl SBlockID.sh] false)], 48⟩
noncomputable def st_G6_4 (c d e f g i : Int) (b : SHeader) (a : SParams) (j : Int) (m : Rows) : St := shape_G6_4.put [.i c, .i d, .i e, .i f, .i g, .i i, .i j, .i b.Area.X0, .i b.Area.Y0, .i b.Area.X1, .i b.Area.Y1, .i b.TileW, .i b.TileH, .r b.Components, .i a.Kernel, .i a.Levels, .i a.Color, .i a.BlockX, .i a.BlockY, .r a.Precincts, .i a.Order, .i a.Layers, .b a.Mode.Bypass, .b a.Mode.Restart, .b a.Mode.Reset, .b a.Mode.Causal, .b a.Mode.Symbols, .b a.Divide, .b a.Sync, .b a.Fence, .r a.Steps, .i a.Dead, .i a.Shift, .r m]
noncomputable def hook_G6_4 : LoopG R := fun l kn _ _ => match l with
  | .i a :: .i b :: .i c :: .i d :: .i e :: .i f :: .i N :: .i g :: .i i :: .i j :: .i m :: .i o :: .i p :: .r q :: .i r :: .i s :: .i t :: .i u :: .i v :: .r w :: .i y :: .i z :: .b A :: .b B :: .b D :: .b E :: .b F :: .b H :: .b I :: .b J :: .r K :: .i L :: .i M :: .r O :: [] => loop_G6_4 a b c d e f (SHeader.mk (SRect.mk g i j m) o p q) (SParams.mk r s t u v w y z (SMode.mk A B D E F) H I J K L M) (fuel_G6_4 a b c d e f N (SHeader.mk (SRect.mk g i j m) o p q) (SParams.mk r s t u v w y z (SMode.mk A B D E F) H I J K L M) O) N O (fun Q S => kn (st_G6_4 a b c d e f (SHeader.mk (SRect.mk g i j m) o p q) (SParams.mk r s t u v w y z (SMode.mk A B D E F) H I J K L M) Q S))
  | _ => none
noncomputable def fuel_G6_2 (c d a e f : Int) (g : SHeader) (b : SParams) (i : Rows) : Nat := let j := decide (a <= b.Levels); Int.toNat (b.Levels - a) + 2
noncomputable def step_G6_2 (c d g i : Int) (e : SHeader) (b : SParams) (a : Int) (f : Rows) (again : Int -> Rows -> Option R) (kn : Int -> Rows -> Option R) : Option R := let o := decide (a <= b.Levels); bif o then let j := m_A8 e b c d a; let m := IntKind.wrap .i64 (j.2.1 * j.2.2); loop_G6_4 c d a g i m e b (fuel_G6_4 c d a g i m 0 e b f) 0 f (fun r p => let q := IntKind.wrap .i64 (a + 1); again q p) else kn a f
noncomputable def loop_G6_2 (a b c d : Int) (e : SHeader) (f : SParams) : Nat -> Int -> Rows -> (Int -> Rows -> Option R) -> Option R
  | 0, _, _, _ => none
  | n + 1, g, i, kn => step_G6_2 a b c d e f g i (fun j m => loop_G6_2 a b c d e f n j m kn) kn
noncomputable def shape_G6_2 : ST := ⟨.undef :: .undef :: .int .i64 :: .ptr 0 0 0 :: .ptr 1 0 0 :: .undef :: .undef :: .vs 14 :: .int .i64 :: .int .i64 :: unds 11 (.int .i64 :: .int .i64 :: unds 39 []), [(0, .var SHeader.sh false SHeader.ts), (1, .var SParams.sh false SParams.ts), (14, .vec [.sl SBlockID.sh] false)], 22⟩
noncomputable def st_G6_2 (c d e f : Int) (b : SHeader) (a : SParams) (g : Int) (i : Rows) : St := shape_G6_2.put [.i c, .i d, .i g, .i e, .i f, .i b.Area.X0, .i b.Area.Y0, .i b.Area.X1, .i b.Area.Y1, .i b.TileW, .i b.TileH, .r b.Components, .i a.Kernel, .i a.Levels, .i a.Color, .i a.BlockX, .i a.BlockY, .r a.Precincts, .i a.Order, .i a.Layers, .b a.Mode.Bypass, .b a.Mode.Restart, .b a.Mode.Reset, .b a.Mode.Causal, .b a.Mode.Symbols, .b a.Divide, .b a.Sync, .b a.Fence, .r a.Steps, .i a.Dead, .i a.Shift, .r i]
noncomputable def hook_G6_2 : LoopG R := fun l kn _ _ => match l with
  | .i a :: .i b :: .i L :: .i c :: .i d :: .i e :: .i f :: .i g :: .i i :: .i j :: .i m :: .r o :: .i p :: .i q :: .i r :: .i s :: .i t :: .r u :: .i v :: .i w :: .b y :: .b z :: .b A :: .b B :: .b D :: .b E :: .b F :: .b H :: .r I :: .i J :: .i K :: .r M :: [] => loop_G6_2 a b c d (SHeader.mk (SRect.mk e f g i) j m o) (SParams.mk p q r s t u v w (SMode.mk y z A B D) E F H I J K) (fuel_G6_2 a b L c d (SHeader.mk (SRect.mk e f g i) j m o) (SParams.mk p q r s t u v w (SMode.mk y z A B D) E F H I J K) M) L M (fun N O => kn (st_G6_2 a b c d (SHeader.mk (SRect.mk e f g i) j m o) (SParams.mk p q r s t u v w (SMode.mk y z A B D) E F H I J K) N O))
  | _ => none
noncomputable def fuel_G6_0 (c a b : Int) (d : SHeader) (e : SParams) (f : Rows) : Nat := Int.toNat (a - b) + 1
noncomputable def step_G6_0 (d b : Int) (e : SHeader) (f : SParams) (a : Int) (c : Rows) (again : Int -> Rows -> Option R) (kn : Int -> Rows -> Option R) : Option R := bif (decide (a < b)) then loop_G6_2 d a b a e f (fuel_G6_2 d a 0 b a e f c) 0 c (fun j g => let i := IntKind.wrap .i64 (a + 1); again i g) else kn a c
noncomputable def loop_G6_0 (a b : Int) (c : SHeader) (d : SParams) : Nat -> Int -> Rows -> (Int -> Rows -> Option R) -> Option R
  | 0, _, _, _ => none
  | n + 1, e, f, kn => step_G6_0 a b c d e f (fun g i => loop_G6_0 a b c d n g i kn) kn
noncomputable def shape_G6_0 : ST := ⟨.undef :: .undef :: .int .i64 :: .ptr 0 0 0 :: .ptr 1 0 0 :: .undef :: .undef :: .vs 14 :: unds 13 (.int .i64 :: .int .i64 :: unds 39 []), [(0, .var SHeader.sh false SHeader.ts), (1, .var SParams.sh false SParams.ts), (14, .vec [.sl SBlockID.sh] false)], 15⟩
noncomputable def st_G6_0 (c d : Int) (b : SHeader) (a : SParams) (e : Int) (f : Rows) : St := shape_G6_0.put [.i c, .i d, .i e, .i b.Area.X0, .i b.Area.Y0, .i b.Area.X1, .i b.Area.Y1, .i b.TileW, .i b.TileH, .r b.Components, .i a.Kernel, .i a.Levels, .i a.Color, .i a.BlockX, .i a.BlockY, .r a.Precincts, .i a.Order, .i a.Layers, .b a.Mode.Bypass, .b a.Mode.Restart, .b a.Mode.Reset, .b a.Mode.Causal, .b a.Mode.Symbols, .b a.Divide, .b a.Sync, .b a.Fence, .r a.Steps, .i a.Dead, .i a.Shift, .r f]
noncomputable def hook_G6_0 : LoopG R := fun l kn _ _ => match l with
  | .i a :: .i b :: .i J :: .i c :: .i d :: .i e :: .i f :: .i g :: .i i :: .r j :: .i m :: .i o :: .i p :: .i q :: .i r :: .r s :: .i t :: .i u :: .b v :: .b w :: .b y :: .b z :: .b A :: .b B :: .b D :: .b E :: .r F :: .i H :: .i I :: .r K :: [] => loop_G6_0 a b (SHeader.mk (SRect.mk c d e f) g i j) (SParams.mk m o p q r s t u (SMode.mk v w y z A) B D E F H I) (fuel_G6_0 a b J (SHeader.mk (SRect.mk c d e f) g i j) (SParams.mk m o p q r s t u (SMode.mk v w y z A) B D E F H I) K) J K (fun L M => kn (st_G6_0 a b (SHeader.mk (SRect.mk c d e f) g i j) (SParams.mk m o p q r s t u (SMode.mk v w y z A) B D E F H I) L M))
  | _ => none
noncomputable def env_G6 : Env R := ⟨Try.prog, callCons 38 c_D7 (callCons 39 c_A8 (callCons 40 c_B8 (callCons 41 c_F8 callNil))), fun id => bif Nat.beq id 4 then loopAlt shape_G6_4 hook_G6_4 loopNil else (fun id => bif Nat.beq id 2 then loopAlt shape_G6_2 hook_G6_2 loopNil else (fun id => bif Nat.beq id 0 then loopAlt shape_G6_0 hook_G6_0 loopNil else (fun _ _ _ _ _ => none) id) id) id, Try.f17.results.toList, maskTab 62 [(0, 0x1c), (1, 0x4001c), (2, 0x40), (3, 0x9c), (4, 0x60009c), (5, 0xe0009c), (6, 0x60019c), (7, 0x60039c), (8, 0x1060039c), (9, 0x60039c), (10, 0x601b9c), (11, 0x18000060039c), (12, 0x38000060039c), (13, 0x18000060239c), (14, 0x18000060039c), (15, 0x18000060039c), (16, 0x60009c), (17, 0x40)], maskAt [(1, 14), (2, 3), (4, 8), (5, 22), (6, 9), (8, 10), (9, 48), (10, 18), (12, 19), (14, 21), (16, 26), (18, 69), (20, 30), (22, 44), (24, 52), (26, 53), (28, 55), (30, 67), (32, 72), (34, 74)]⟩
theorem step_G6_4_eq (a b c d e f : Int) (g : SHeader) (i : SParams) (o : Int) (p : Rows) (kn : St -> Option R) (kx : Nat -> St -> Option R) (kr : V -> Option R) (n : Nat) (q : Int) (r : Rows) :
    loopN env_G6 4 (loopAt Try.f17 2) (st_G6_4 a b c d e f g i o p) kn kx kr (n + 1) (st_G6_4 a b c d e f g i q r) =
    step_G6_4 a b c d e f g i q r (fun j m => loopN env_G6 4 (loopAt Try.f17 2) (st_G6_4 a b c d e f g i o p) kn kx kr n (st_G6_4 a b c d e f g i j m)) (fun j m => kn (st_G6_4 a b c d e f g i j m)) := by kernel_rfl
theorem loop_G6_4_eq (a b c d e f : Int) (g : SHeader) (i : SParams) (q : Int) (r : Rows) (kn : St -> Option R) (kx : Nat -> St -> Option R) (kr : V -> Option R) : ∀ (n : Nat) (j : Int) (m : Rows),
    loop_G6_4 a b c d e f g i n j m (fun o p => kn (st_G6_4 a b c d e f g i o p)) = loopN env_G6 4 (loopAt Try.f17 2) (st_G6_4 a b c d e f g i q r) kn kx kr n (st_G6_4 a b c d e f g i j m)
  | 0, _, _ => rfl
  | n + 1, j, m => by
    rw [step_G6_4_eq, loop_G6_4]
    congr 1
    funext o p
    exact loop_G6_4_eq a b c d e f g i q r kn kx kr n o p
theorem goodl_G6_4 {rest} (h : GoodL (R := R) env_G6 4 (loopAt Try.f17 2) rest) : GoodL (R := R) env_G6 4 (loopAt Try.f17 2) (loopAlt shape_G6_4 hook_G6_4 rest) := by
  refine goodL_alt (fun l kn kx kr r h => ?_) h
  unfold hook_G6_4 at h
  split at h
  · rename_i c d e f g i a j m o p q s t u v w y z A B D E F H I J K L M N O Q b
    exact ⟨_, (loop_G6_4_eq c d e f g i (SHeader.mk (SRect.mk j m o p) q s t) (SParams.mk u v w y z A B D (SMode.mk E F H I J) K L M N O Q) a b kn kx kr _ a b).symm.trans h⟩
  · cases h
theorem step_G6_2_eq (a b c d : Int) (e : SHeader) (f : SParams) (j : Int) (m : Rows) (kn : St -> Option R) (kx : Nat -> St -> Option R) (kr : V -> Option R) (n : Nat) (o : Int) (p : Rows) :
    loopN env_G6 2 (loopAt Try.f17 1) (st_G6_2 a b c d e f j m) kn kx kr (n + 1) (st_G6_2 a b c d e f o p) =
    step_G6_2 a b c d e f o p (fun g i => loopN env_G6 2 (loopAt Try.f17 1) (st_G6_2 a b c d e f j m) kn kx kr n (st_G6_2 a b c d e f g i)) (fun g i => kn (st_G6_2 a b c d e f g i)) := by kernel_rfl
theorem loop_G6_2_eq (a b c d : Int) (e : SHeader) (f : SParams) (o : Int) (p : Rows) (kn : St -> Option R) (kx : Nat -> St -> Option R) (kr : V -> Option R) : ∀ (n : Nat) (g : Int) (i : Rows),
    loop_G6_2 a b c d e f n g i (fun j m => kn (st_G6_2 a b c d e f j m)) = loopN env_G6 2 (loopAt Try.f17 1) (st_G6_2 a b c d e f o p) kn kx kr n (st_G6_2 a b c d e f g i)
  | 0, _, _ => rfl
  | n + 1, g, i => by
    rw [step_G6_2_eq, loop_G6_2]
    congr 1
    funext j m
    exact loop_G6_2_eq a b c d e f o p kn kx kr n j m
theorem goodl_G6_2 {rest} (h : GoodL (R := R) env_G6 2 (loopAt Try.f17 1) rest) : GoodL (R := R) env_G6 2 (loopAt Try.f17 1) (loopAlt shape_G6_2 hook_G6_2 rest) := by
  refine goodL_alt (fun l kn kx kr r h => ?_) h
  unfold hook_G6_2 at h
  split at h
  · rename_i c d a e f g i j m o p q s t u v w y z A B D E F H I J K L M N b
    exact ⟨_, (loop_G6_2_eq c d e f (SHeader.mk (SRect.mk g i j m) o p q) (SParams.mk s t u v w y z A (SMode.mk B D E F H) I J K L M N) a b kn kx kr _ a b).symm.trans h⟩
  · cases h
theorem step_G6_0_eq (a b : Int) (c : SHeader) (d : SParams) (g : Int) (i : Rows) (kn : St -> Option R) (kx : Nat -> St -> Option R) (kr : V -> Option R) (n : Nat) (j : Int) (m : Rows) :
    loopN env_G6 0 (loopAt Try.f17 0) (st_G6_0 a b c d g i) kn kx kr (n + 1) (st_G6_0 a b c d j m) =
    step_G6_0 a b c d j m (fun e f => loopN env_G6 0 (loopAt Try.f17 0) (st_G6_0 a b c d g i) kn kx kr n (st_G6_0 a b c d e f)) (fun e f => kn (st_G6_0 a b c d e f)) := by kernel_rfl
theorem loop_G6_0_eq (a b : Int) (c : SHeader) (d : SParams) (j : Int) (m : Rows) (kn : St -> Option R) (kx : Nat -> St -> Option R) (kr : V -> Option R) : ∀ (n : Nat) (e : Int) (f : Rows),
    loop_G6_0 a b c d n e f (fun g i => kn (st_G6_0 a b c d g i)) = loopN env_G6 0 (loopAt Try.f17 0) (st_G6_0 a b c d j m) kn kx kr n (st_G6_0 a b c d e f)
  | 0, _, _ => rfl
  | n + 1, e, f => by
    rw [step_G6_0_eq, loop_G6_0]
    congr 1
    funext g i
    exact loop_G6_0_eq a b c d j m kn kx kr n g i
theorem goodl_G6_0 {rest} (h : GoodL (R := R) env_G6 0 (loopAt Try.f17 0) rest) : GoodL (R := R) env_G6 0 (loopAt Try.f17 0) (loopAlt shape_G6_0 hook_G6_0 rest) := by
  refine goodL_alt (fun l kn kx kr r h => ?_) h
  unfold hook_G6_0 at h
  split at h
  · rename_i c d a e f g i j m o p q s t u v w y z A B D E F H I J K L b
    exact ⟨_, (loop_G6_0_eq c d (SHeader.mk (SRect.mk e f g i) j m o) (SParams.mk p q s t u v w y (SMode.mk z A B D E) F H I J K L) a b kn kx kr _ a b).symm.trans h⟩
  · cases h
theorem good_G6_0 : GoodLoop (R := R) env_G6 0 (loopAt Try.f17 0) := goodL_loop (g := loopAlt shape_G6_0 hook_G6_0 loopNil) (fun _ _ _ _ => rfl) (goodl_G6_0 goodL_nil)
theorem good_G6_2 : GoodLoop (R := R) env_G6 2 (loopAt Try.f17 1) := goodL_loop (g := loopAlt shape_G6_2 hook_G6_2 loopNil) (fun _ _ _ _ => rfl) (goodl_G6_2 goodL_nil)
theorem good_G6_4 : GoodLoop (R := R) env_G6 4 (loopAt Try.f17 2) := goodL_loop (g := loopAlt shape_G6_4 hook_G6_4 loopNil) (fun _ _ _ _ => rfl) (goodl_G6_4 goodL_nil)
noncomputable def spec_G6 (a : SHeader) (b : SParams) (c : Int) (k : V -> Option R) : Option R := let f := m_D7 a b c 0; bif (!f) then k (V.data SBlockID.sh []) else let d := (((List.length a.Components) : Nat) : Int); loop_G6_0 c d a b (fuel_G6_0 c d 0 a b []) 0 [] (fun i e => bif (pre_F8 e) then let g := m_F8 e; k (V.data SBlockID.sh g) else none)
abbrev av_G6 (a : SHeader) (b : SParams) (c : Int) : List V := [(SHeader.v a), (SParams.v b), V.int .i64 c]
theorem spec_G6_eq (a : SHeader) (b : SParams) (c : Int) (k : V -> Option R) : fnK env_G6 Try.f17 (av_G6 a b c) k = spec_G6 a b c k := by kernel_rfl
theorem mk_G6 (h_D7 : G_D7) (h_A8 : G_A8) (h_B8 : G_B8) (h_F8 : G_F8) (h : ∀ (a : SHeader) (b : SParams) (d : Int), Real (av_G6 a b d) -> spec_G6 a b d some = some (V.data SBlockID.sh (m_G6 a b d))) : G_G6 := goodHook1 fun l hp => by
  unfold hp_G6 at hp
  split at hp
  · rename_i f g i j m o p q r s t u v w y z A B D F H I J K L M N
    exact fn_ok (fn := Try.f17) (c := bodyOf Try.f17) (E := env_G6) ⟨by kernel_rfl, (goodCons h_D7 (goodCons h_A8 (goodCons h_B8 (goodCons h_F8 goodNil)))), rfl⟩ rfl (by kernel_rfl) (by kernel_rfl) (by kernel_rfl) (loopsOK_of _ (by have e : loopsOf (bodyOf Try.f17) = [(0, loopAt Try.f17 0), (2, loopAt Try.f17 1), (4, loopAt Try.f17 2)] := (by kernel_rfl); rw [e]; simp only [List.forall_mem_cons, List.not_mem_nil, false_implies, implies_true, and_true]; exact ⟨good_G6_0, good_G6_2, good_G6_4⟩)) (fun hr => (spec_G6_eq (SHeader.mk (SRect.mk f g i j) m o p) (SParams.mk q r s t u v w y (SMode.mk z A B D F) H I J K L M) N some).trans (h (SHeader.mk (SRect.mk f g i j) m o p) (SParams.mk q r s t u v w y (SMode.mk z A B D F) H I J K L M) N hr))
  · cases hp
noncomputable def env_A0 : Env R := ⟨Try.prog, callNil, fun _ _ _ _ _ => none, Try.f82.results.toList, maskTab 8 [(0, 0x1), (1, 0x11), (2, 0x4), (3, 0x4)], maskAt [(2, 1), (4, 3), (6, 4)]⟩
noncomputable def spec_A0 (a : Rows) (k : V -> Option R) : Option R := match a with | [] => agree (k (V.data SComponent.sh [])) (bif (roomOK ((0 : Nat) + (List.length a)) 32) then k (V.data SComponent.sh ([] ++ a)) else none) | _ :: _ => bif (roomOK ((0 : Nat) + (List.length a)) 32) then k (V.data SComponent.sh ([] ++ a)) else none
abbrev av_A0 (a : Rows) : List V := [V.data SComponent.sh a]
theorem spec_A0_eq (a : Rows) (k : V -> Option R) : fnK env_A0 Try.f82 (av_A0 a) k = spec_A0 a k := by cases a <;> kernel_rfl
theorem mk_A0 (h : ∀ (a : Rows), pre_A0 a = true -> Real (av_A0 a) -> spec_A0 a some = some (V.data SComponent.sh (m_A0 a))) : G_A0 := goodHook1 fun l hp => by
  unfold hp_A0 at hp
  split at hp
  · rename_i b
    exact fn_ok (fn := Try.f82) (c := bodyOf Try.f82) (E := env_A0) ⟨by kernel_rfl, goodNil, rfl⟩ rfl (by kernel_rfl) (by kernel_rfl) (by kernel_rfl) (loopsOK_of _ (by have e : loopsOf (bodyOf Try.f82) = [] := (by kernel_rfl); rw [e]; intro p hp; cases hp)) (fun hr => (spec_A0_eq b some).trans (h b hp hr))
  · cases hp
noncomputable def env_A1 : Env R := ⟨Try.prog, callNil, fun _ _ _ _ _ => none, Try.f83.results.toList, maskTab 8 [(0, 0x1), (1, 0x11), (2, 0x4), (3, 0x4)], maskAt [(2, 1), (4, 3), (6, 4)]⟩
noncomputable def spec_A1 (a : Rows) (k : V -> Option R) : Option R := match a with | [] => agree (k (V.data SSpan.sh [])) (bif (roomOK ((0 : Nat) + (List.length a)) 16) then k (V.data SSpan.sh ([] ++ a)) else none) | _ :: _ => bif (roomOK ((0 : Nat) + (List.length a)) 16) then k (V.data SSpan.sh ([] ++ a)) else none
abbrev av_A1 (a : Rows) : List V := [V.data SSpan.sh a]
theorem spec_A1_eq (a : Rows) (k : V -> Option R) : fnK env_A1 Try.f83 (av_A1 a) k = spec_A1 a k := by cases a <;> kernel_rfl
theorem mk_A1 (h : ∀ (a : Rows), pre_A1 a = true -> Real (av_A1 a) -> spec_A1 a some = some (V.data SSpan.sh (m_A1 a))) : G_A1 := goodHook1 fun l hp => by
  unfold hp_A1 at hp
  split at hp
  · rename_i b
    exact fn_ok (fn := Try.f83) (c := bodyOf Try.f83) (E := env_A1) ⟨by kernel_rfl, goodNil, rfl⟩ rfl (by kernel_rfl) (by kernel_rfl) (by kernel_rfl) (loopsOK_of _ (by have e : loopsOf (bodyOf Try.f83) = [] := (by kernel_rfl); rw [e]; intro p hp; cases hp)) (fun hr => (spec_A1_eq b some).trans (h b hp hr))
  · cases hp
noncomputable def env_A2 : Env R := ⟨Try.prog, callNil, fun _ _ _ _ _ => none, Try.f84.results.toList, maskTab 8 [(0, 0x1), (1, 0x11), (2, 0x4), (3, 0x4)], maskAt [(2, 1), (4, 3), (6, 4)]⟩
noncomputable def spec_A2 (a : Rows) (k : V -> Option R) : Option R := match a with | [] => agree (k (V.data [.int .i64] [])) (bif (roomOK ((0 : Nat) + (List.length a)) 8) then k (V.data [.int .i64] ([] ++ a)) else none) | _ :: _ => bif (roomOK ((0 : Nat) + (List.length a)) 8) then k (V.data [.int .i64] ([] ++ a)) else none
abbrev av_A2 (a : Rows) : List V := [(V.data [.int .i64] a)]
theorem spec_A2_eq (a : Rows) (k : V -> Option R) : fnK env_A2 Try.f84 (av_A2 a) k = spec_A2 a k := by cases a <;> kernel_rfl
theorem mk_A2 (h : ∀ (a : Rows), pre_A2 a = true -> Real (av_A2 a) -> spec_A2 a some = some (V.data [.int .i64] (m_A2 a))) : G_A2 := goodHook1 fun l hp => by
  unfold hp_A2 at hp
  split at hp
  · rename_i b
    exact fn_ok (fn := Try.f84) (c := bodyOf Try.f84) (E := env_A2) ⟨by kernel_rfl, goodNil, rfl⟩ rfl (by kernel_rfl) (by kernel_rfl) (by kernel_rfl) (loopsOK_of _ (by have e : loopsOf (bodyOf Try.f84) = [] := (by kernel_rfl); rw [e]; intro p hp; cases hp)) (fun hr => (spec_A2_eq b some).trans (h b hp hr))
  · cases hp
noncomputable def env_E8 : Env R := ⟨Try.prog, callCons 82 c_A0 (callCons 83 c_A1 (callCons 84 c_A2 callNil)), fun _ _ _ _ _ => none, Try.f53.results.toList, maskTab 20 [(0, 0x3c), (1, 0x3c), (2, 0x3c), (3, 0x3c), (4, 0x30)], maskAt [(2, 4), (4, 9), (6, 14), (8, 19)]⟩
noncomputable def spec_E8 (b : SHeader) (a : SParams) (k : V -> Option R) : Option R := bif (pre_A0 b.Components) then let c := m_A0 b.Components; bif (pre_A1 a.Precincts) then let d := m_A1 a.Precincts; bif (pre_A2 a.Steps) then let e := m_A2 a.Steps; k (V.tup [(V.agg [V.int .i64 b.Area.X0, V.int .i64 b.Area.Y0, V.int .i64 b.Area.X1, V.int .i64 b.Area.Y1, V.int .i64 b.TileW, V.int .i64 b.TileH, V.data SComponent.sh c]), (V.agg [V.int .i64 a.Kernel, V.int .i64 a.Levels, V.int .i64 a.Color, V.int .i64 a.BlockX, V.int .i64 a.BlockY, V.data SSpan.sh d, V.int .i64 a.Order, V.int .i64 a.Layers, V.bool a.Mode.Bypass, V.bool a.Mode.Restart, V.bool a.Mode.Reset, V.bool a.Mode.Causal, V.bool a.Mode.Symbols, V.bool a.Divide, V.bool a.Sync, V.bool a.Fence, (V.data [.int .i64] e), V.int .i64 a.Dead, V.int .i64 a.Shift])]) else none else none else none
abbrev av_E8 (a : SHeader) (b : SParams) : List V := [(SHeader.v a), (SParams.v b)]
theorem spec_E8_eq (a : SHeader) (b : SParams) (k : V -> Option R) : fnK env_E8 Try.f53 (av_E8 a b) k = spec_E8 a b k := by kernel_rfl
theorem mk_E8 (h_A0 : G_A0) (h_A1 : G_A1) (h_A2 : G_A2) (h : ∀ (a : SHeader) (b : SParams), pre_E8 a b = true -> Real (av_E8 a b) -> spec_E8 a b some = some (V.tup [(SHeader.v (m_E8 a b).1), (SParams.v (m_E8 a b).2)])) : G_E8 := goodHook1 fun l hp => by
  unfold hp_E8 at hp
  split at hp
  · rename_i d f g i j m o q r s t u v w y z A B D F H I J K L M
    exact fn_ok (fn := Try.f53) (c := bodyOf Try.f53) (E := env_E8) ⟨by kernel_rfl, (goodCons h_A0 (goodCons h_A1 (goodCons h_A2 goodNil))), rfl⟩ rfl (by kernel_rfl) (by kernel_rfl) (by kernel_rfl) (loopsOK_of _ (by have e : loopsOf (bodyOf Try.f53) = [] := (by kernel_rfl); rw [e]; intro p hp; cases hp)) (fun hr => (spec_E8_eq (SHeader.mk (SRect.mk d f g i) j m o) (SParams.mk q r s t u v w y (SMode.mk z A B D F) H I J K L M) some).trans (h (SHeader.mk (SRect.mk d f g i) j m o) (SParams.mk q r s t u v w y (SMode.mk z A B D F) H I J K L M) hp hr))
  · cases hp
theorem au_E8 (a : SHeader) (b : SParams) : pre_E8 a b = true -> spec_E8 a b some = some ((fun (m : SHeader × SParams) => (V.tup [(SHeader.v m.1), (SParams.v m.2)])) (m_E8 a b)) := by
  repeat' (first | exact fun _ => rfl | exact fun h => absurd h (by decide) | refine bif_p (v := (fun (m : SHeader × SParams) => (V.tup [(SHeader.v m.1), (SParams.v m.2)]))) ?_ ?_)
theorem good_E8_of (h_A0 : G_A0) (h_A1 : G_A1) (h_A2 : G_A2) : G_E8 := mk_E8 h_A0 h_A1 h_A2 (fun _ _ hp _ => au_E8 _ _ hp)
noncomputable def env_B7 : Env R := ⟨Try.prog, callCons 33 c_C9 (callCons 34 c_H1 (callCons 35 c_H2 (callCons 36 c_C6 (callCons 52 c_E2 (callCons 53 c_E8 (callCons 54 c_F4 callNil)))))), fun _ _ _ _ _ => none, Try.f23.results.toList, maskTab 82 [(0, 0x300007ce7000078), (1, 0x300007ce7000178), (2, 0x300007ce7020178), (3, 0xc0), (4, 0x300008000000068), (5, 0xc0), (6, 0x300000000000268), (7, 0x300400000000268), (8, 0x300000000000268), (9, 0x400000000000268), (10, 0xc0), (11, 0x648), (12, 0xe40), (13, 0x840), (14, 0x80000000000000000840), (15, 0xc0), (16, 0xc0)], maskAt [(2, 5), (4, 9), (6, 11), (8, 15), (10, 35), (12, 38), (14, 42), (16, 46), (18, 51), (20, 59), (22, 62), (24, 67), (26, 77), (28, 87), (30, 90), (32, 93)]⟩
noncomputable def spec_B7 (b : SHeader) (e : SParams) (a : SView) (k : V -> Option R) : Option R := let f := m_E2 b e; bif (f != 0) then k (V.tup [(V.agg [(V.int .i64 0), (V.int .i64 0), (V.int .i64 0), (V.int .i64 0), (V.int .i64 0), (V.int .i64 0), (V.data SComponent.sh [])]), V.int .i64 f]) else let r := decide (a.Layers < 0); let s := decide (a.Layers > 16); let t : Bool := (bif r then true else s); let u := decide (a.Drop < 0); let v : Bool := (bif t then true else u); let w := decide (a.Drop > e.Levels); let y : Bool := (bif v then true else w); bif y then k (V.tup [(V.agg [(V.int .i64 0), (V.int .i64 0), (V.int .i64 0), (V.int .i64 0), (V.int .i64 0), (V.int .i64 0), (V.data SComponent.sh [])]), (V.int .i64 2)]) else let z := !((a.Window.X0 == 0) && ((a.Window.Y0 == 0) && ((a.Window.X1 == 0) && ((a.Window.Y1 == 0) && true)))); bif z then let g := m_C6 b.Area a.Window; let A := m_H1 a.Window; bif ((!A) == false) then let B := m_H2 g; bif B then k (V.tup [(V.agg [(V.int .i64 0), (V.int .i64 0), (V.int .i64 0), (V.int .i64 0), (V.int .i64 0), (V.int .i64 0), (V.data SComponent.sh [])]), (V.int .i64 2)]) else let i := IntKind.wrap .u64 a.Drop; bif (decide (0 <= i)) then let j := IntKind.wrap .i64 (1 * 2 ^ (min (Int.toNat i) 64)); bif (pre_E8 b (SParams.mk 0 0 0 0 0 [] 0 0 (SMode.mk false false false false false) false false false [] 0 0)) then let m := m_E8 b (SParams.mk 0 0 0 0 0 [] 0 0 (SMode.mk false false false false false) false false false [] 0 0); let c := m_F4 g j j; let D := m_C9 (SHeader.mk c 4096 4096 m.1.Components); bif (D != 0) then k (V.tup [(V.agg [(V.int .i64 0), (V.int .i64 0), (V.int .i64 0), (V.int .i64 0), (V.int .i64 0), (V.int .i64 0), (V.data SComponent.sh [])]), (V.int .i64 2)]) else k (V.tup [(V.agg [V.int .i64 c.X0, V.int .i64 c.Y0, V.int .i64 c.X1, V.int .i64 c.Y1, (V.int .i64 4096), (V.int .i64 4096), V.data SComponent.sh m.1.Components]), (V.int .i64 0)]) else none else none else k (V.tup [(V.agg [(V.int .i64 0), (V.int .i64 0), (V.int .i64 0), (V.int .i64 0), (V.int .i64 0), (V.int .i64 0), (V.data SComponent.sh [])]), (V.int .i64 2)]) else let o := IntKind.wrap .u64 a.Drop; bif (decide (0 <= o)) then let p := IntKind.wrap .i64 (1 * 2 ^ (min (Int.toNat o) 64)); bif (pre_E8 b (SParams.mk 0 0 0 0 0 [] 0 0 (SMode.mk false false false false false) false false false [] 0 0)) then let q := m_E8 b (SParams.mk 0 0 0 0 0 [] 0 0 (SMode.mk false false false false false) false false false [] 0 0); let d := m_F4 b.Area p p; let E := m_C9 (SHeader.mk d 4096 4096 q.1.Components); bif (E != 0) then k (V.tup [(V.agg [(V.int .i64 0), (V.int .i64 0), (V.int .i64 0), (V.int .i64 0), (V.int .i64 0), (V.int .i64 0), (V.data SComponent.sh [])]), (V.int .i64 2)]) else k (V.tup [(V.agg [V.int .i64 d.X0, V.int .i64 d.Y0, V.int .i64 d.X1, V.int .i64 d.Y1, (V.int .i64 4096), (V.int .i64 4096), V.data SComponent.sh q.1.Components]), (V.int .i64 0)]) else none else none
abbrev av_B7 (a : SHeader) (b : SParams) (c : SView) : List V := [(SHeader.v a), (SParams.v b), (SView.v c)]
theorem spec_B7_eq (a : SHeader) (b : SParams) (c : SView) (k : V -> Option R) : fnK env_B7 Try.f23 (av_B7 a b c) k = spec_B7 a b c k := by kernel_rfl
theorem mk_B7 (h_C9 : G_C9) (h_H1 : G_H1) (h_H2 : G_H2) (h_C6 : G_C6) (h_E2 : G_E2) (h_E8 : G_E8) (h_F4 : G_F4) (h : ∀ (a : SHeader) (b : SParams) (d : SView), pre_B7 a b d = true -> Real (av_B7 a b d) -> spec_B7 a b d some = some (V.tup [(SHeader.v (m_B7 a b d).1), (V.int .i64 (m_B7 a b d).2)])) : G_B7 := goodHook1 fun l hp => by
  unfold hp_B7 at hp
  split at hp
  · rename_i f g i j m o q r s t u v w y z A B D F H I J K L M N O Q S U W X
    exact fn_ok (fn := Try.f23) (c := bodyOf Try.f23) (E := env_B7) ⟨by kernel_rfl, (goodCons h_C9 (goodCons h_H1 (goodCons h_H2 (goodCons h_C6 (goodCons h_E2 (goodCons h_E8 (goodCons h_F4 goodNil))))))), rfl⟩ rfl (by kernel_rfl) (by kernel_rfl) (by kernel_rfl) (loopsOK_of _ (by have e : loopsOf (bodyOf Try.f23) = [] := (by kernel_rfl); rw [e]; intro p hp; cases hp)) (fun hr => (spec_B7_eq (SHeader.mk (SRect.mk f g i j) m o q) (SParams.mk r s t u v w y z (SMode.mk A B D F H) I J K L M N) (SView.mk O Q (SRect.mk S U W X)) some).trans (h (SHeader.mk (SRect.mk f g i j) m o q) (SParams.mk r s t u v w y z (SMode.mk A B D F H) I J K L M N) (SView.mk O Q (SRect.mk S U W X)) hp hr))
  · cases hp
theorem au_B7 (a : SHeader) (b : SParams) (c : SView) : pre_B7 a b c = true -> spec_B7 a b c some = some ((fun (m : SHeader × Int) => (V.tup [(SHeader.v m.1), V.int .i64 m.2])) (m_B7 a b c)) := by
  repeat' (first | exact fun _ => rfl | exact fun h => absurd h (by decide) | refine bif_p (v := (fun (m : SHeader × Int) => (V.tup [(SHeader.v m.1), V.int .i64 m.2]))) ?_ ?_)
theorem good_B7_of (h_C9 : G_C9) (h_H1 : G_H1) (h_H2 : G_H2) (h_C6 : G_C6) (h_E2 : G_E2) (h_E8 : G_E8) (h_F4 : G_F4) : G_B7 := mk_B7 h_C9 h_H1 h_H2 h_C6 h_E2 h_E8 h_F4 (fun _ _ _ hp _ => au_B7 _ _ _ hp)
noncomputable def env_F2 : Env R := ⟨Try.prog, callNil, fun _ _ _ _ _ => none, Try.f85.results.toList, maskTab 9 [(0, 0x1), (1, 0x8), (2, 0x18), (3, 0x18), (4, 0x4), (5, 0x80), (6, 0x4), (7, 0x4)], maskAt [(2, 1), (4, 2), (6, 4), (8, 6), (10, 7), (12, 9), (14, 10)]⟩
noncomputable def spec_F2 (a : Int) (k : V -> Option R) : Option R := bif (a == 1) then bif (a == 1) then k (V.int .i64 2) else bif (a == 3) then k (V.int .i64 4) else k (V.int .i64 0) else bif (a == 2) then k (V.int .i64 2) else bif (a == 3) then k (V.int .i64 4) else k (V.int .i64 0)
abbrev av_F2 (a : Int) : List V := [V.int .i64 a]
theorem spec_F2_eq (a : Int) (k : V -> Option R) : fnK env_F2 Try.f85 (av_F2 a) k = spec_F2 a k := by kernel_rfl
theorem mk_F2 (h : ∀ (a : Int), Real (av_F2 a) -> spec_F2 a some = some (V.int .i64 (m_F2 a))) : G_F2 := goodHook1 fun l hp => by
  unfold hp_F2 at hp
  split at hp
  · rename_i b
    exact fn_ok (fn := Try.f85) (c := bodyOf Try.f85) (E := env_F2) ⟨by kernel_rfl, goodNil, rfl⟩ rfl (by kernel_rfl) (by kernel_rfl) (by kernel_rfl) (loopsOK_of _ (by have e : loopsOf (bodyOf Try.f85) = [] := (by kernel_rfl); rw [e]; intro p hp; cases hp)) (fun hr => (spec_F2_eq b some).trans (h b hr))
  · cases hp
theorem au_F2 (a : Int) : spec_F2 a some = some ((fun (m : Int) => (V.int .i64 m)) (m_F2 a)) := by
  repeat' (first | rfl | refine bif_t (v := (fun (m : Int) => (V.int .i64 m))) ?_ ?_)
theorem good_F2_of : G_F2 := mk_F2 (fun _ _ => au_F2 _)
noncomputable def fuel_F0_0 (b c a : Int) (d : SRect) (e : Rows) (f : SRect) : Nat := let g := decide (a > 0); Int.toNat (a - 0) + 1
noncomputable def step_F0_0 (o c : Int) (p : SRect) (a : Int) (d : Rows) (b : SRect) (again : Int -> Rows -> SRect -> Option R) (kn : Int -> Rows -> SRect -> Option R) : Option R := let q := decide (a > 0); bif q then let r := IntKind.wrap .i64 (b.X0 - c); let s := IntKind.wrap .i64 (b.Y0 - c); let t := IntKind.wrap .i64 (b.X1 + c); let u := IntKind.wrap .i64 (b.Y1 + c); let v := m_A6 p o a; let w := m_C6 (SRect.mk r s t u) v; let e := m_J1 w; let y := IntKind.wrap .i64 (3 * a); let f := IntKind.wrap .i64 (y - 2); let z := IntKind.wrap .i64 (3 * a); let g := IntKind.wrap .i64 (z - 1); let i := IntKind.wrap .i64 (3 * a); bif (inR f (List.length d)) then let j := List.set d (Int.toNat f) (setCells (List.getD d (Int.toNat f) []) 0 (SRect.row e.e1)); bif (inR g (List.length j)) then let m := List.set j (Int.toNat g) (setCells (List.getD j (Int.toNat g) []) 0 (SRect.row e.e2)); bif (inR i (List.length m)) then let A := List.set m (Int.toNat i) (setCells (List.getD m (Int.toNat i) []) 0 (SRect.row e.e3)); let B := IntKind.wrap .i64 (a - 1); again B A e.e0 else none else none else none else kn a d b
noncomputable def loop_F0_0 (a b : Int) (c : SRect) : Nat -> Int -> Rows -> SRect -> (Int -> Rows -> SRect -> Option R) -> Option R
  | 0, _, _, _, _ => none
  | n + 1, d, e, f, kn => step_F0_0 a b c d e f (fun g i j => loop_F0_0 a b c n g i j kn) kn
noncomputable def shape_F0_0 : ST := ⟨.undef :: .int .i64 :: unds 3 (.ptr 0 0 0 :: unds 5 (.int .i64 :: .vs 30 :: .ptr 38 0 0 :: .int .i64 :: unds 92 [])), [(0, .var SRect.sh false SRect.ts), (30, .vec SRect.sh false), (38, .var SRect.sh false SRect.ts)], 46⟩
noncomputable def st_F0_0 (c d : Int) (a : SRect) (e : Int) (f : Rows) (b : SRect) : St := shape_F0_0.put [.i c, .i d, .i e, .i a.X0, .i a.Y0, .i a.X1, .i a.Y1, .r f, .i b.X0, .i b.Y0, .i b.X1, .i b.Y1]
noncomputable def hook_F0_0 : LoopG R := fun l kn _ _ => match l with
  | .i a :: .i b :: .i g :: .i c :: .i d :: .i e :: .i f :: .r i :: .i j :: .i m :: .i o :: .i p :: [] => loop_F0_0 a b (SRect.mk c d e f) (fuel_F0_0 a b g (SRect.mk c d e f) i (SRect.mk j m o p)) g i (SRect.mk j m o p) (fun q r s => kn (st_F0_0 a b (SRect.mk c d e f) q r s))
  | _ => none
noncomputable def env_F0 : Env R := ⟨Try.prog, callCons 34 c_H1 (callCons 35 c_H2 (callCons 36 c_C6 (callCons 69 c_A6 (callCons 85 c_F2 (callCons 86 c_A4 (callCons 87 c_D9 (callCons 88 c_J1 callNil))))))), fun id => bif Nat.beq id 0 then loopAlt shape_F0_0 hook_F0_0 loopNil else (fun _ _ _ _ _ => none) id, Try.f56.results.toList, maskTab 107 [(0, 0x6733800136), (1, 0x6733800926), (2, 0x8000000926), (3, 0x400), (4, 0x1926), (5, 0x3826), (6, 0x4000000003826), (7, 0x400), (8, 0x7822), (9, 0x40000000007822), (10, 0x7822), (11, 0xf822), (12, 0x17822), (13, 0x17822), (14, 0x7822), (15, 0x1000), (16, 0x400)], maskAt [(1, 46), (2, 3), (4, 6), (6, 27), (8, 28), (10, 32), (12, 40), (14, 42), (16, 44), (18, 50), (20, 106), (22, 52), (24, 76), (26, 80), (28, 103), (30, 109), (32, 113)]⟩
theorem step_F0_0_eq (a b : Int) (c : SRect) (g : Int) (i : Rows) (j : SRect) (kn : St -> Option R) (kx : Nat -> St -> Option R) (kr : V -> Option R) (n : Nat) (m : Int) (o : Rows) (p : SRect) :
    loopN env_F0 0 (loopAt Try.f56 0) (st_F0_0 a b c g i j) kn kx kr (n + 1) (st_F0_0 a b c m o p) =
    step_F0_0 a b c m o p (fun d e f => loopN env_F0 0 (loopAt Try.f56 0) (st_F0_0 a b c g i j) kn kx kr n (st_F0_0 a b c d e f)) (fun d e f => kn (st_F0_0 a b c d e f)) := by kernel_rfl
theorem loop_F0_0_eq (a b : Int) (c : SRect) (m : Int) (o : Rows) (p : SRect) (kn : St -> Option R) (kx : Nat -> St -> Option R) (kr : V -> Option R) : ∀ (n : Nat) (d : Int) (e : Rows) (f : SRect),
    loop_F0_0 a b c n d e f (fun g i j => kn (st_F0_0 a b c g i j)) = loopN env_F0 0 (loopAt Try.f56 0) (st_F0_0 a b c m o p) kn kx kr n (st_F0_0 a b c d e f)
  | 0, _, _, _ => rfl
  | n + 1, d, e, f => by
    rw [step_F0_0_eq, loop_F0_0]
    congr 1
    funext g i j
    exact loop_F0_0_eq a b c m o p kn kx kr n g i j
theorem goodl_F0_0 {rest} (h : GoodL (R := R) env_F0 0 (loopAt Try.f56 0) rest) : GoodL (R := R) env_F0 0 (loopAt Try.f56 0) (loopAlt shape_F0_0 hook_F0_0 rest) := by
  refine goodL_alt (fun l kn kx kr r h => ?_) h
  unfold hook_F0_0 at h
  split at h
  · rename_i g i a j m o p b c d e f
    exact ⟨_, (loop_F0_0_eq g i (SRect.mk j m o p) a b (SRect.mk c d e f) kn kx kr _ a b (SRect.mk c d e f)).symm.trans h⟩
  · cases h
theorem good_F0_0 : GoodLoop (R := R) env_F0 0 (loopAt Try.f56 0) := goodL_loop (g := loopAlt shape_F0_0 hook_F0_0 loopNil) (fun _ _ _ _ => rfl) (goodl_F0_0 goodL_nil)
noncomputable def spec_F0 (d : SRect) (a c : Int) (j : SRect) (m : Int) (k : V -> Option R) : Option R := let e := m_F2 m; let o := m_H1 d; bif ((!o) == false) then let p := m_A4 a; let q := decide (c < 0); let r : Bool := (bif (!p) then true else q); let s : Bool := (bif r then true else (decide (c > a))); let t : Bool := (bif s then true else (e == 0)); bif t then k (V.data SRect.sh []) else let b := m_D9 a; bif (((((decide (0 <= b)) && (decide (b <= b))) && (decide ((b * 32) <= 140737488355328))) && (decide (b <= 140737488355328))) && true) then let f := List.replicate (Int.toNat b) [(V.int .i64 0), (V.int .i64 0), (V.int .i64 0), (V.int .i64 0)]; let u := m_A6 d a c; let g := m_C6 j u; let v := m_H2 g; bif v then k (V.data SRect.sh f) else loop_F0_0 a e d (fuel_F0_0 a e c d f g) c f g (fun z i w => bif (inR 0 (List.length i)) then let y := List.set i (0 : Nat) (setCells (List.getD i (0 : Nat) []) 0 (SRect.row w)); k (V.data SRect.sh y) else none) else none else k (V.data SRect.sh [])
abbrev av_F0 (a : SRect) (b c : Int) (d : SRect) (e : Int) : List V := [(SRect.v a), V.int .i64 b, V.int .i64 c, (SRect.v d), V.int .i64 e]
theorem spec_F0_eq (a : SRect) (b c : Int) (d : SRect) (e : Int) (k : V -> Option R) : fnK env_F0 Try.f56 (av_F0 a b c d e) k = spec_F0 a b c d e k := by kernel_rfl
theorem mk_F0 (h_H1 : G_H1) (h_H2 : G_H2) (h_C6 : G_C6) (h_A6 : G_A6) (h_F2 : G_F2) (h_A4 : G_A4) (h_D9 : G_D9) (h_J1 : G_J1) (h : ∀ (a : SRect) (b d : Int) (f : SRect) (g : Int), Real (av_F0 a b d f g) -> spec_F0 a b d f g some = some (V.data SRect.sh (m_F0 a b d f g))) : G_F0 := goodHook1 fun l hp => by
  unfold hp_F0 at hp
  split at hp
  · rename_i i j m o p q r s t u v
    exact fn_ok (fn := Try.f56) (c := bodyOf Try.f56) (E := env_F0) ⟨by kernel_rfl, (goodCons h_H1 (goodCons h_H2 (goodCons h_C6 (goodCons h_A6 (goodCons h_F2 (goodCons h_A4 (goodCons h_D9 (goodCons h_J1 goodNil)))))))), rfl⟩ rfl (by kernel_rfl) (by kernel_rfl) (by kernel_rfl) (loopsOK_of _ (by have e : loopsOf (bodyOf Try.f56) = [(0, loopAt Try.f56 0)] := (by kernel_rfl); rw [e]; simp only [List.forall_mem_cons, List.not_mem_nil, false_implies, implies_true, and_true]; exact good_F0_0)) (fun hr => (spec_F0_eq (SRect.mk i j m o) p q (SRect.mk r s t u) v some).trans (h (SRect.mk i j m o) p q (SRect.mk r s t u) v hr))
  · cases hp
end Go.Vm
