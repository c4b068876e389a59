import Derived.Test.YtjekfokamcfffaaWM
set_option linter.unusedVariables false
set_option linter.unusedSimpArgs false
set_option maxRecDepth 100000
noncomputable section
namespace Go.Vm
open Go.Proofs
variable {R : Type}
noncomputable def fuel_B9_4 (c d : Int) (e : Rows) (f g : Int) (i : Rows) (a b : Int) (j : SParams) (m o : SRect) (p q : Int) : Nat := Int.toNat (a - b) + 1
noncomputable def step_B9_4 (t u : Int) (v : Rows) (w y : Int) (c : Rows) (f : Int) (a : SParams) (z g : SRect) (d e : Int) (b : Int) (again : Int -> Option R) (kn : Int -> Option R) (kr : V -> Option R) : Option R := bif (decide (b < f)) then bif (inR b (List.length c)) then let i := List.getD c (Int.toNat b) []; let j := V.toInt (List.getD i 0 V.undef); let m := m_F1 g a.Levels j; let o : Int := (bif (decide (d < a.BlockX)) then d else a.BlockX); let p : Int := (bif (decide (e < a.BlockY)) then e else a.BlockY); let q := m_E4 m o p; let r := decide (q > 65536); bif r then kr (V.bool false) else let s := IntKind.wrap .i64 (b + 1); again s else none else kn b
noncomputable def loop_B9_4 (a b : Int) (c : Rows) (d e : Int) (f : Rows) (g : Int) (i : SParams) (j m : SRect) (o p : Int) : Nat -> Int -> (Int -> Option R) -> (V -> Option R) -> Option R
  | 0, _, _, _ => none
  | n + 1, q, kn, kr => step_B9_4 a b c d e f g i j m o p q (fun r => loop_B9_4 a b c d e f g i j m o p n r kn kr) kn kr
noncomputable def shape_B9_4 : ST := ⟨unds 4 (.ptr 1 0 0 :: .ptr 2 0 0 :: .undef :: .int .i64 :: .undef :: .undef :: .ptr 24 0 0 :: .int .i64 :: .ptr 38 0 0 :: unds 3 (.data SComponent.sh :: .int .i64 :: .int .i64 :: unds 46 (.data [.int .i64] :: .int .i64 :: .int .i64 :: unds 24 []))), [(1, .var SParams.sh false SParams.ts), (2, .var SRect.sh false SRect.ts), (24, .var SRect.sh false SRect.ts), (38, .var SSpan.sh false SSpan.ts)], 74⟩
noncomputable def st_B9_4 (d e : Int) (f : Rows) (g i : Int) (j : Rows) (m : Int) (a : SParams) (b c : SRect) (o p : Int) (q : Int) : St := shape_B9_4.put [.i d, .i e, .r f, .i g, .i i, .r j, .i m, .i q, .i a.Kernel, .i a.Levels, .i a.Color, .i a.BlockX, .i a.BlockY, .r a.Precincts, .i a.Order, .i a.Layers, .b a.Mode.Bypass, .b a.Mode.Restart, .b a.Mode.Reset, .b a.Mode.Causal, .b a.Mode.Symbols, .b a.Divide, .b a.Sync, .b a.Fence, .r a.Steps, .i a.Dead, .i a.Shift, .i b.X0, .i b.Y0, .i b.X1, .i b.Y1, .i c.X0, .i c.Y0, .i c.X1, .i c.Y1, .i o, .i p]
noncomputable def hook_B9_4 : LoopG R := fun l kn _ kr => match l with
  | .i a :: .i b :: .r c :: .i d :: .i e :: .r f :: .i g :: .i U :: .i i :: .i j :: .i m :: .i o :: .i p :: .r q :: .i r :: .i s :: .b t :: .b u :: .b v :: .b w :: .b y :: .b z :: .b A :: .b B :: .r D :: .i E :: .i F :: .i H :: .i I :: .i J :: .i K :: .i L :: .i M :: .i N :: .i O :: .i Q :: .i S :: [] => loop_B9_4 a b c d e f g (SParams.mk i j m o p q r s (SMode.mk t u v w y) z A B D E F) (SRect.mk H I J K) (SRect.mk L M N O) Q S (fuel_B9_4 a b c d e f g U (SParams.mk i j m o p q r s (SMode.mk t u v w y) z A B D E F) (SRect.mk H I J K) (SRect.mk L M N O) Q S) U (fun W => kn (st_B9_4 a b c d e f g (SParams.mk i j m o p q r s (SMode.mk t u v w y) z A B D E F) (SRect.mk H I J K) (SRect.mk L M N O) Q S W)) kr
  | _ => none
noncomputable def fuel_B9_2 (c a : Int) (d : Rows) (e f : Int) (b : SParams) (g i : SRect) : Nat := let j := decide (a <= b.Levels); Int.toNat (b.Levels - a) + 2
noncomputable def step_B9_2 (f : Rows) (g i : Int) (b : SParams) (j e : SRect) (p a : Int) (again : Int -> Int -> Option R) (kn : Int -> Int -> Option R) (kr : V -> Option R) : Option R := let u := decide (a <= b.Levels); bif u then let c := m_B5 b a; let v := m_A6 e b.Levels a; let w := m_E4 v c.X c.Y; let y := IntKind.wrap .i64 (w * b.Layers); let d := IntKind.wrap .i64 (p + y); let z := decide (a > 0); bif z then let q := IntKind.wrap .i64 (c.X - 1); let r := IntKind.wrap .i64 (c.Y - 1); let m := m_B4 b.Levels a; let s := (((List.length m) : Nat) : Int); loop_B9_4 d a f g i m s b j e q r (fuel_B9_4 d a f g i m s 0 b j e q r) 0 (fun D => let A := IntKind.wrap .i64 (a + 1); again d A) kr else let o := m_B4 b.Levels a; let t := (((List.length o) : Nat) : Int); loop_B9_4 d a f g i o t b j e c.X c.Y (fuel_B9_4 d a f g i o t 0 b j e c.X c.Y) 0 (fun E => let B := IntKind.wrap .i64 (a + 1); again d B) kr else kn p a
noncomputable def loop_B9_2 (a : Rows) (b c : Int) (d : SParams) (e f : SRect) : Nat -> Int -> Int -> (Int -> Int -> Option R) -> (V -> Option R) -> Option R
  | 0, _, _, _, _ => none
  | n + 1, g, i, kn, kr => step_B9_2 a b c d e f g i (fun j m => loop_B9_2 a b c d e f n j m kn kr) kn kr
noncomputable def shape_B9_2 : ST := ⟨unds 4 (.ptr 1 0 0 :: .ptr 2 0 0 :: .undef :: .int .i64 :: .undef :: .undef :: .ptr 24 0 0 :: .int .i64 :: unds 4 (.data SComponent.sh :: .int .i64 :: .int .i64 :: unds 73 [])), [(1, .var SParams.sh false SParams.ts), (2, .var SRect.sh false SRect.ts), (24, .var SRect.sh false SRect.ts)], 27⟩
noncomputable def st_B9_2 (d : Rows) (e f : Int) (a : SParams) (b c : SRect) (g i : Int) : St := shape_B9_2.put [.i g, .i i, .r d, .i e, .i f, .i a.Kernel, .i a.Levels, .i a.Color, .i a.BlockX, .i a.BlockY, .r a.Precincts, .i a.Order, .i a.Layers, .b a.Mode.Bypass, .b a.Mode.Restart, .b a.Mode.Reset, .b a.Mode.Causal, .b a.Mode.Symbols, .b a.Divide, .b a.Sync, .b a.Fence, .r a.Steps, .i a.Dead, .i a.Shift, .i b.X0, .i b.Y0, .i b.X1, .i b.Y1, .i c.X0, .i c.Y0, .i c.X1, .i c.Y1]
noncomputable def hook_B9_2 : LoopG R := fun l kn _ kr => match l with
  | .i L :: .i M :: .r a :: .i b :: .i c :: .i d :: .i e :: .i f :: .i g :: .i i :: .r j :: .i m :: .i o :: .b p :: .b q :: .b r :: .b s :: .b t :: .b u :: .b v :: .b w :: .r y :: .i z :: .i A :: .i B :: .i D :: .i E :: .i F :: .i H :: .i I :: .i J :: .i K :: [] => loop_B9_2 a b c (SParams.mk d e f g i j m o (SMode.mk p q r s t) u v w y z A) (SRect.mk B D E F) (SRect.mk H I J K) (fuel_B9_2 L M a b c (SParams.mk d e f g i j m o (SMode.mk p q r s t) u v w y z A) (SRect.mk B D E F) (SRect.mk H I J K)) L M (fun N O => kn (st_B9_2 a b c (SParams.mk d e f g i j m o (SMode.mk p q r s t) u v w y z A) (SRect.mk B D E F) (SRect.mk H I J K) N O)) kr
  | _ => none
noncomputable def fuel_B9_0 (c : Int) (d : Rows) (a b : Int) (e : SParams) (f : SRect) : Nat := Int.toNat (a - b) + 1
noncomputable def step_B9_0 (b : Rows) (c : Int) (f : SParams) (d : SRect) (e a : Int) (again : Int -> Int -> Option R) (kn : Int -> Int -> Option R) (kr : V -> Option R) : Option R := bif (decide (a < c)) then bif (inR a (List.length b)) then let j := List.getD b (Int.toNat a) []; let g := SComponent.of j; let i := m_F4 d g.DX g.DY; loop_B9_2 b c a f d i (fuel_B9_2 e 0 b c a f d i) e 0 (fun m p => let o := IntKind.wrap .i64 (a + 1); again m o) kr else none else kn e a
noncomputable def loop_B9_0 (a : Rows) (b : Int) (c : SParams) (d : SRect) : Nat -> Int -> Int -> (Int -> Int -> Option R) -> (V -> Option R) -> Option R
  | 0, _, _, _, _ => none
  | n + 1, e, f, kn, kr => step_B9_0 a b c d e f (fun g i => loop_B9_0 a b c d n g i kn kr) kn kr
noncomputable def shape_B9_0 : ST := ⟨unds 4 (.ptr 1 0 0 :: .ptr 2 0 0 :: .undef :: .int .i64 :: unds 8 (.data SComponent.sh :: .int .i64 :: .int .i64 :: unds 73 [])), [(1, .var SParams.sh false SParams.ts), (2, .var SRect.sh false SRect.ts)], 9⟩
noncomputable def st_B9_0 (c : Rows) (d : Int) (a : SParams) (b : SRect) (e f : Int) : St := shape_B9_0.put [.i e, .r c, .i d, .i f, .i a.Kernel, .i a.Levels, .i a.Color, .i a.BlockX, .i a.BlockY, .r a.Precincts, .i a.Order, .i a.Layers, .b a.Mode.Bypass, .b a.Mode.Restart, .b a.Mode.Reset, .b a.Mode.Causal, .b a.Mode.Symbols, .b a.Divide, .b a.Sync, .b a.Fence, .r a.Steps, .i a.Dead, .i a.Shift, .i b.X0, .i b.Y0, .i b.X1, .i b.Y1]
noncomputable def hook_B9_0 : LoopG R := fun l kn _ kr => match l with
  | .i F :: .r a :: .i b :: .i H :: .i c :: .i d :: .i e :: .i f :: .i g :: .r i :: .i j :: .i m :: .b o :: .b p :: .b q :: .b r :: .b s :: .b t :: .b u :: .b v :: .r w :: .i y :: .i z :: .i A :: .i B :: .i D :: .i E :: [] => loop_B9_0 a b (SParams.mk c d e f g i j m (SMode.mk o p q r s) t u v w y z) (SRect.mk A B D E) (fuel_B9_0 F a b H (SParams.mk c d e f g i j m (SMode.mk o p q r s) t u v w y z) (SRect.mk A B D E)) F H (fun I J => kn (st_B9_0 a b (SParams.mk c d e f g i j m (SMode.mk o p q r s) t u v w y z) (SRect.mk A B D E) I J)) kr
  | _ => none
noncomputable def env_B9 : Env R := ⟨Try.prog, callCons 54 c_F4 (callCons 69 c_A6 (callCons 70 c_B5 (callCons 74 c_B4 (callCons 96 c_F1 (callCons 99 c_E4 callNil))))), fun id => bif Nat.beq id 4 then loopAlt shape_B9_4 hook_B9_4 loopNil else (fun id => bif Nat.beq id 2 then loopAlt shape_B9_2 hook_B9_2 loopNil else (fun id => bif Nat.beq id 0 then loopAlt shape_B9_0 hook_B9_0 loopNil else (fun _ _ _ _ _ => none) id) id) id, Try.f81.results.toList, maskTab 92 [(0, 0x38), (1, 0xb8), (2, 0x700b0), (3, 0xf00b0), (4, 0x702b0), (5, 0x704b0), (6, 0x70cb0), (7, 0x80070cb0), (8, 0x70cb0), (9, 0x71cb0), (10, 0x71cb0), (11, 0x20000000071cb0), (12, 0x71cb0), (13, 0xe0000000000071cb0), (14, 0x1e0000000000071cb0), (15, 0xe0000000000075cb0), (16, 0x80000e0000000000071cb0), (17, 0x40), (18, 0xe0000000000071cb0), (19, 0x700b0), (20, 0x40)], maskAt [(1, 9), (2, 4), (4, 5), (5, 27), (6, 13), (8, 14), (9, 74), (10, 18), (12, 26), (14, 31), (16, 102), (18, 35), (20, 40), (22, 56), (24, 58), (26, 68), (28, 78), (30, 79), (32, 82), (34, 99), (36, 100), (38, 105), (40, 107)]⟩
theorem step_B9_4_eq (a b : Int) (c : Rows) (d e : Int) (f : Rows) (g : Int) (i : SParams) (j m : SRect) (o p : Int) (r : Int) (kn : St -> Option R) (kx : Nat -> St -> Option R) (kr : V -> Option R) (n : Nat) (s : Int) :
    loopN env_B9 4 (loopAt Try.f81 2) (st_B9_4 a b c d e f g i j m o p r) kn kx kr (n + 1) (st_B9_4 a b c d e f g i j m o p s) =
    step_B9_4 a b c d e f g i j m o p s (fun q => loopN env_B9 4 (loopAt Try.f81 2) (st_B9_4 a b c d e f g i j m o p r) kn kx kr n (st_B9_4 a b c d e f g i j m o p q)) (fun q => kn (st_B9_4 a b c d e f g i j m o p q)) kr := by kernel_rfl
theorem loop_B9_4_eq (a b : Int) (c : Rows) (d e : Int) (f : Rows) (g : Int) (i : SParams) (j m : SRect) (o p : Int) (s : Int) (kn : St -> Option R) (kx : Nat -> St -> Option R) (kr : V -> Option R) : ∀ (n : Nat) (q : Int),
    loop_B9_4 a b c d e f g i j m o p n q (fun r => kn (st_B9_4 a b c d e f g i j m o p r)) kr = loopN env_B9 4 (loopAt Try.f81 2) (st_B9_4 a b c d e f g i j m o p s) kn kx kr n (st_B9_4 a b c d e f g i j m o p q)
  | 0, _ => rfl
  | n + 1, q => by
    rw [step_B9_4_eq, loop_B9_4]
    congr 1
    funext r
    exact loop_B9_4_eq a b c d e f g i j m o p s kn kx kr n r
theorem goodl_B9_4 {rest} (h : GoodL (R := R) env_B9 4 (loopAt Try.f81 2) rest) : GoodL (R := R) env_B9 4 (loopAt Try.f81 2) (loopAlt shape_B9_4 hook_B9_4 rest) := by
  refine goodL_alt (fun l kn kx kr r h => ?_) h
  unfold hook_B9_4 at h
  split at h
  · rename_i b c d e f g i a j m o p q s t u v w y z A B D E F H I J K L M N O Q S U W
    exact ⟨_, (loop_B9_4_eq b c d e f g i (SParams.mk j m o p q s t u (SMode.mk v w y z A) B D E F H I) (SRect.mk J K L M) (SRect.mk N O Q S) U W a kn kx kr _ a).symm.trans h⟩
  · cases h
theorem step_B9_2_eq (a : Rows) (b c : Int) (d : SParams) (e f : SRect) (j m : Int) (kn : St -> Option R) (kx : Nat -> St -> Option R) (kr : V -> Option R) (n : Nat) (o p : Int) :
    loopN env_B9 2 (loopAt Try.f81 1) (st_B9_2 a b c d e f j m) kn kx kr (n + 1) (st_B9_2 a b c d e f o p) =
    step_B9_2 a b c d e f o p (fun g i => loopN env_B9 2 (loopAt Try.f81 1) (st_B9_2 a b c d e f j m) kn kx kr n (st_B9_2 a b c d e f g i)) (fun g i => kn (st_B9_2 a b c d e f g i)) kr := by kernel_rfl
theorem loop_B9_2_eq (a : Rows) (b c : Int) (d : SParams) (e f : SRect) (o p : Int) (kn : St -> Option R) (kx : Nat -> St -> Option R) (kr : V -> Option R) : ∀ (n : Nat) (g i : Int),
    loop_B9_2 a b c d e f n g i (fun j m => kn (st_B9_2 a b c d e f j m)) kr = loopN env_B9 2 (loopAt Try.f81 1) (st_B9_2 a b c d e f o p) kn kx kr n (st_B9_2 a b c d e f g i)
  | 0, _, _ => rfl
  | n + 1, g, i => by
    rw [step_B9_2_eq, loop_B9_2]
    congr 1
    funext j m
    exact loop_B9_2_eq a b c d e f o p kn kx kr n j m
theorem goodl_B9_2 {rest} (h : GoodL (R := R) env_B9 2 (loopAt Try.f81 1) rest) : GoodL (R := R) env_B9 2 (loopAt Try.f81 1) (loopAlt shape_B9_2 hook_B9_2 rest) := by
  refine goodL_alt (fun l kn kx kr r h => ?_) h
  unfold hook_B9_2 at h
  split at h
  · rename_i a b c d e f g i j m o p q s t u v w y z A B D E F H I J K L M N
    exact ⟨_, (loop_B9_2_eq c d e (SParams.mk f g i j m o p q (SMode.mk s t u v w) y z A B D E) (SRect.mk F H I J) (SRect.mk K L M N) a b kn kx kr _ a b).symm.trans h⟩
  · cases h
theorem step_B9_0_eq (a : Rows) (b : Int) (c : SParams) (d : SRect) (g i : Int) (kn : St -> Option R) (kx : Nat -> St -> Option R) (kr : V -> Option R) (n : Nat) (j m : Int) :
    loopN env_B9 0 (loopAt Try.f81 0) (st_B9_0 a b c d g i) kn kx kr (n + 1) (st_B9_0 a b c d j m) =
    step_B9_0 a b c d j m (fun e f => loopN env_B9 0 (loopAt Try.f81 0) (st_B9_0 a b c d g i) kn kx kr n (st_B9_0 a b c d e f)) (fun e f => kn (st_B9_0 a b c d e f)) kr := by kernel_rfl
theorem loop_B9_0_eq (a : Rows) (b : Int) (c : SParams) (d : SRect) (j m : Int) (kn : St -> Option R) (kx : Nat -> St -> Option R) (kr : V -> Option R) : ∀ (n : Nat) (e f : Int),
    loop_B9_0 a b c d n e f (fun g i => kn (st_B9_0 a b c d g i)) kr = loopN env_B9 0 (loopAt Try.f81 0) (st_B9_0 a b c d j m) kn kx kr n (st_B9_0 a b c d e f)
  | 0, _, _ => rfl
  | n + 1, e, f => by
    rw [step_B9_0_eq, loop_B9_0]
    congr 1
    funext g i
    exact loop_B9_0_eq a b c d j m kn kx kr n g i
theorem goodl_B9_0 {rest} (h : GoodL (R := R) env_B9 0 (loopAt Try.f81 0) rest) : GoodL (R := R) env_B9 0 (loopAt Try.f81 0) (loopAlt shape_B9_0 hook_B9_0 rest) := by
  refine goodL_alt (fun l kn kx kr r h => ?_) h
  unfold hook_B9_0 at h
  split at h
  · rename_i a c d b e f g i j m o p q s t u v w y z A B D E F H I
    exact ⟨_, (loop_B9_0_eq c d (SParams.mk e f g i j m o p (SMode.mk q s t u v) w y z A B D) (SRect.mk E F H I) a b kn kx kr _ a b).symm.trans h⟩
  · cases h
theorem good_B9_0 : GoodLoop (R := R) env_B9 0 (loopAt Try.f81 0) := goodL_loop (g := loopAlt shape_B9_0 hook_B9_0 loopNil) (fun _ _ _ _ => rfl) (goodl_B9_0 goodL_nil)
theorem good_B9_2 : GoodLoop (R := R) env_B9 2 (loopAt Try.f81 1) := goodL_loop (g := loopAlt shape_B9_2 hook_B9_2 loopNil) (fun _ _ _ _ => rfl) (goodl_B9_2 goodL_nil)
theorem good_B9_4 : GoodLoop (R := R) env_B9 4 (loopAt Try.f81 2) := goodL_loop (g := loopAlt shape_B9_4 hook_B9_4 loopNil) (fun _ _ _ _ => rfl) (goodl_B9_4 goodL_nil)
noncomputable def spec_B9 (a : SHeader) (b : SParams) (c : SRect) (k : V -> Option R) : Option R := let d := (((List.length a.Components) : Nat) : Int); loop_B9_0 a.Components d b c (fuel_B9_0 0 a.Components d 0 b c) 0 0 (fun e g => let f := decide (e <= 65536); k (V.bool f)) k
abbrev av_B9 (a : SHeader) (b : SParams) (c : SRect) : List V := [(SHeader.v a), (SParams.v b), (SRect.v c)]
theorem spec_B9_eq (a : SHeader) (b : SParams) (c : SRect) (k : V -> Option R) : fnK env_B9 Try.f81 (av_B9 a b c) k = spec_B9 a b c k := by kernel_rfl
theorem mk_B9 (h_F4 : G_F4) (h_A6 : G_A6) (h_B5 : G_B5) (h_B4 : G_B4) (h_F1 : G_F1) (h_E4 : G_E4) (h : ∀ (a : SHeader) (b : SParams) (d : SRect), pre_B9 a b d = true -> Real (av_B9 a b d) -> spec_B9 a b d some = some (V.bool (m_B9 a b d))) : G_B9 := goodHook1 fun l hp => by
  unfold hp_B9 at hp
  split at hp
  · rename_i f g i j m o p q r s t u v w y z A B D F H I J K L M N O Q S
    exact fn_ok (fn := Try.f81) (c := bodyOf Try.f81) (E := env_B9) ⟨by kernel_rfl, (goodCons h_F4 (goodCons h_A6 (goodCons h_B5 (goodCons h_B4 (goodCons h_F1 (goodCons h_E4 goodNil)))))), rfl⟩ rfl (by kernel_rfl) (by kernel_rfl) (by kernel_rfl) (loopsOK_of _ (by have e : loopsOf (bodyOf Try.f81) = [(0, loopAt Try.f81 0), (2, loopAt Try.f81 1), (4, loopAt Try.f81 2)] := (by kernel_rfl); rw [e]; simp only [List.forall_mem_cons, List.not_mem_nil, false_implies, implies_true, and_true]; exact ⟨good_B9_0, good_B9_2, good_B9_4⟩)) (fun hr => (spec_B9_eq (SHeader.mk (SRect.mk f g i j) m o p) (SParams.mk q r s t u v w y (SMode.mk z A B D F) H I J K L M) (SRect.mk N O Q S) some).trans (h (SHeader.mk (SRect.mk f g i j) m o p) (SParams.mk q r s t u v w y (SMode.mk z A B D F) H I J K L M) (SRect.mk N O Q S) hp hr))
  · cases hp
noncomputable def fuel_E2_0 (c : Rows) (a b : Int) (d : SHeader) (e : SParams) : Nat := Int.toNat (a - b) + 1
noncomputable def step_E2_0 (b : Rows) (f : Int) (c : SHeader) (d : SParams) (a : Int) (again : Int -> Option R) (kn : Int -> Option R) (kr : V -> Option R) : Option R := bif (decide (a < f)) then bif (inR a (List.length b)) then let g := List.getD b (Int.toNat a) []; let e := SRect.of g; bif (pre_B9 c d e) then let i := m_B9 c d e; bif (!i) then kr (V.int .i64 5) else let j := IntKind.wrap .i64 (a + 1); again j else none else none else kn a
noncomputable def loop_E2_0 (a : Rows) (b : Int) (c : SHeader) (d : SParams) : Nat -> Int -> (Int -> Option R) -> (V -> Option R) -> Option R
  | 0, _, _, _ => none
  | n + 1, e, kn, kr => step_E2_0 a b c d e (fun f => loop_E2_0 a b c d n f kn kr) kn kr
noncomputable def shape_E2_0 : ST := ⟨.undef :: .undef :: .ptr 0 0 0 :: .ptr 1 0 0 :: unds 38 (.data SRect.sh :: .int .i64 :: .int .i64 :: unds 9 []), [(0, .var SHeader.sh false SHeader.ts), (1, .var SParams.sh false SParams.ts)], 44⟩
noncomputable def st_E2_0 (c : Rows) (d : Int) (b : SHeader) (a : SParams) (e : Int) : St := shape_E2_0.put [.r c, .i d, .i e, .i b.Area.X0, .i b.Area.Y0, .i b.Area.X1, .i b.Area.Y1, .i b.TileW, .i b.TileH, .r b.Components, .i a.Kernel, .i a.Levels, .i a.Color, .i a.BlockX, .i a.BlockY, .r a.Precincts, .i a.Order, .i a.Layers, .b a.Mode.Bypass, .b a.Mode.Restart, .b a.Mode.Reset, .b a.Mode.Causal, .b a.Mode.Symbols, .b a.Divide, .b a.Sync, .b a.Fence, .r a.Steps, .i a.Dead, .i a.Shift]
noncomputable def hook_E2_0 : LoopG R := fun l kn _ kr => match l with
  | .r a :: .i b :: .i J :: .i c :: .i d :: .i e :: .i f :: .i g :: .i i :: .r j :: .i m :: .i o :: .i p :: .i q :: .i r :: .r s :: .i t :: .i u :: .b v :: .b w :: .b y :: .b z :: .b A :: .b B :: .b D :: .b E :: .r F :: .i H :: .i I :: [] => loop_E2_0 a b (SHeader.mk (SRect.mk c d e f) g i j) (SParams.mk m o p q r s t u (SMode.mk v w y z A) B D E F H I) (fuel_E2_0 a b J (SHeader.mk (SRect.mk c d e f) g i j) (SParams.mk m o p q r s t u (SMode.mk v w y z A) B D E F H I)) J (fun K => kn (st_E2_0 a b (SHeader.mk (SRect.mk c d e f) g i j) (SParams.mk m o p q r s t u (SMode.mk v w y z A) B D E F H I) K)) kr
  | _ => none
noncomputable def env_E2 : Env R := ⟨Try.prog, callCons 33 c_C9 (callCons 55 c_G5 (callCons 65 c_D8 (callCons 80 c_C5 (callCons 81 c_B9 callNil)))), fun id => bif Nat.beq id 0 then loopAlt shape_E2_0 hook_E2_0 loopNil else (fun _ _ _ _ _ => none) id, Try.f52.results.toList, maskTab 54 [(0, 0x7cf8000c), (1, 0x7cf8002c), (2, 0x7cf8082c), (3, 0x10), (4, 0x8000000c), (5, 0x10), (6, 0x80000000c), (7, 0x10), (8, 0x1c000000000c), (9, 0x3c000000000c), (10, 0x1c000000008c), (11, 0x101c000000000c), (12, 0x10), (13, 0x1c000000000c), (14, 0x10)], maskAt [(1, 44), (2, 3), (4, 6), (6, 8), (8, 10), (10, 29), (12, 30), (14, 34), (16, 35), (18, 48), (20, 49), (22, 53), (24, 58), (26, 59), (28, 61)]⟩
theorem step_E2_0_eq (a : Rows) (b : Int) (c : SHeader) (d : SParams) (f : Int) (kn : St -> Option R) (kx : Nat -> St -> Option R) (kr : V -> Option R) (n : Nat) (g : Int) :
    loopN env_E2 0 (loopAt Try.f52 0) (st_E2_0 a b c d f) kn kx kr (n + 1) (st_E2_0 a b c d g) =
    step_E2_0 a b c d g (fun e => loopN env_E2 0 (loopAt Try.f52 0) (st_E2_0 a b c d f) kn kx kr n (st_E2_0 a b c d e)) (fun e => kn (st_E2_0 a b c d e)) kr := by kernel_rfl
theorem loop_E2_0_eq (a : Rows) (b : Int) (c : SHeader) (d : SParams) (g : Int) (kn : St -> Option R) (kx : Nat -> St -> Option R) (kr : V -> Option R) : ∀ (n : Nat) (e : Int),
    loop_E2_0 a b c d n e (fun f => kn (st_E2_0 a b c d f)) kr = loopN env_E2 0 (loopAt Try.f52 0) (st_E2_0 a b c d g) kn kx kr n (st_E2_0 a b c d e)
  | 0, _ => rfl
  | n + 1, e => by
    rw [step_E2_0_eq, loop_E2_0]
    congr 1
    funext f
    exact loop_E2_0_eq a b c d g kn kx kr n f
theorem goodl_E2_0 {rest} (h : GoodL (R := R) env_E2 0 (loopAt Try.f52 0) rest) : GoodL (R := R) env_E2 0 (loopAt Try.f52 0) (loopAlt shape_E2_0 hook_E2_0 rest) := by
  refine goodL_alt (fun l kn kx kr r h => ?_) h
  unfold hook_E2_0 at h
  split at h
  · rename_i b c a d e f g i j m o p q s t u v w y z A B D E F H I J K
    exact ⟨_, (loop_E2_0_eq b c (SHeader.mk (SRect.mk d e f g) i j m) (SParams.mk o p q s t u v w (SMode.mk y z A B D) E F H I J K) a kn kx kr _ a).symm.trans h⟩
  · cases h
theorem good_E2_0 : GoodLoop (R := R) env_E2 0 (loopAt Try.f52 0) := goodL_loop (g := loopAlt shape_E2_0 hook_E2_0 loopNil) (fun _ _ _ _ => rfl) (goodl_E2_0 goodL_nil)
noncomputable def spec_E2 (b : SHeader) (a : SParams) (k : V -> Option R) : Option R := let d := m_C9 b; bif (d != 0) then k (V.int .i64 d) else bif (pre_D8 1 3 [[V.int .i64 a.Kernel]]) then let f := m_D8 1 3 [[V.int .i64 a.Kernel]]; bif ((!f) == false) then bif (pre_D8 0 2 [[V.int .i64 a.Color]]) then let g := m_D8 0 2 [[V.int .i64 a.Color]]; bif ((!g) == false) then bif (pre_D8 1 5 [[V.int .i64 a.Order]]) then let i := m_D8 1 5 [[V.int .i64 a.Order]]; bif (!i) then k (V.int .i64 3) else let j := m_C5 b a; bif (!j) then k (V.int .i64 13) else let c := m_G5 b.Area b.TileW b.TileH; let e := (((List.length c) : Nat) : Int); loop_E2_0 c e b a (fuel_E2_0 c e 0 b a) 0 (fun m => k (V.int .i64 0)) k else none else k (V.int .i64 3) else none else k (V.int .i64 3) else none
abbrev av_E2 (a : SHeader) (b : SParams) : List V := [(SHeader.v a), (SParams.v b)]
theorem spec_E2_eq (a : SHeader) (b : SParams) (k : V -> Option R) : fnK env_E2 Try.f52 (av_E2 a b) k = spec_E2 a b k := by kernel_rfl
theorem mk_E2 (h_C9 : G_C9) (h_G5 : G_G5) (h_D8 : G_D8) (h_C5 : G_C5) (h_B9 : G_B9) (h : ∀ (a : SHeader) (b : SParams), Real (av_E2 a b) -> spec_E2 a b some = some (V.int .i64 (m_E2 a b))) : G_E2 := goodHook1 fun l hp => by
  unfold hp_E2 at hp
  split at hp
  · rename_i d f g i j m o p q r s t u v w y z A B D F H I J K L
    exact fn_ok (fn := Try.f52) (c := bodyOf Try.f52) (E := env_E2) ⟨by kernel_rfl, (goodCons h_C9 (goodCons h_G5 (goodCons h_D8 (goodCons h_C5 (goodCons h_B9 goodNil))))), rfl⟩ rfl (by kernel_rfl) (by kernel_rfl) (by kernel_rfl) (loopsOK_of _ (by have e : loopsOf (bodyOf Try.f52) = [(0, loopAt Try.f52 0)] := (by kernel_rfl); rw [e]; simp only [List.forall_mem_cons, List.not_mem_nil, false_implies, implies_true, and_true]; exact good_E2_0)) (fun hr => (spec_E2_eq (SHeader.mk (SRect.mk d f g i) j m o) (SParams.mk p q r s t u v w (SMode.mk y z A B D) F H I J K L) some).trans (h (SHeader.mk (SRect.mk d f g i) j m o) (SParams.mk p q r s t u v w (SMode.mk y z A B D) F H I J K L) hr))
  · cases hp
noncomputable def env_D7 : Env R := ⟨Try.prog, callCons 24 c_E7 (callCons 52 c_E2 callNil), fun _ _ _ _ _ => none, Try.f38.results.toList, maskTab 35 [(0, 0x3e67cc03c), (1, 0x100)], maskAt [(2, 3)]⟩
noncomputable def spec_D7 (a : SHeader) (d : SParams) (b c : Int) (k : V -> Option R) : Option R := let e := m_E2 a d; let f := decide (b >= 0); let g : Bool := (bif (e == 0) then f else false); bif (g == true) then let i := m_E7 a; let j := (((List.length i) : Nat) : Int); let m := decide (c >= 0); let o : Bool := (bif (decide (b < j)) then m else false); bif (o == true) then let p := (((List.length a.Components) : Nat) : Int); k (V.bool (decide (c < p))) else k (V.bool false) else k (V.bool false)
abbrev av_D7 (a : SHeader) (b : SParams) (c d : Int) : List V := [(SHeader.v a), (SParams.v b), V.int .i64 c, V.int .i64 d]
theorem spec_D7_eq (a : SHeader) (b : SParams) (c d : Int) (k : V -> Option R) : fnK env_D7 Try.f38 (av_D7 a b c d) k = spec_D7 a b c d k := by kernel_rfl
theorem mk_D7 (h_E7 : G_E7) (h_E2 : G_E2) (h : ∀ (a : SHeader) (b : SParams) (d f : Int), Real (av_D7 a b d f) -> spec_D7 a b d f some = some (V.bool (m_D7 a b d f))) : G_D7 := goodHook1 fun l hp => by
  unfold hp_D7 at hp
  split at hp
  · rename_i g i j m o q r s t u v w y z A B D F H I J K L M N O Q S
    exact fn_ok (fn := Try.f38) (c := bodyOf Try.f38) (E := env_D7) ⟨by kernel_rfl, (goodCons h_E7 (goodCons h_E2 goodNil)), rfl⟩ rfl (by kernel_rfl) (by kernel_rfl) (by kernel_rfl) (loopsOK_of _ (by have e : loopsOf (bodyOf Try.f38) = [] := (by kernel_rfl); rw [e]; intro p hp; cases hp)) (fun hr => (spec_D7_eq (SHeader.mk (SRect.mk g i j m) o q r) (SParams.mk s t u v w y z A (SMode.mk B D F H I) J K L M N O) Q S some).trans (h (SHeader.mk (SRect.mk g i j m) o q r) (SParams.mk s t u v w y z A (SMode.mk B D F H I) J K L M N O) Q S hr))
  · cases hp
theorem au_D7 (a : SHeader) (b : SParams) (c d : Int) : spec_D7 a b c d some = some ((fun (m : Bool) => (V.bool m)) (m_D7 a b c d)) := by
  repeat' (first | rfl | refine bif_t (v := (fun (m : Bool) => (V.bool m))) ?_ ?_)
theorem good_D7_of (h_E7 : G_E7) (h_E2 : G_E2) : G_D7 := mk_D7 h_E7 h_E2 (fun _ _ _ _ _ => au_D7 _ _ _ _)
noncomputable def env_B0 : Env R := ⟨Try.prog, callCons 24 c_E7 (callCons 54 c_F4 callNil), fun _ _ _ _ _ => none, Try.f57.results.toList, maskTab 45 [(0, 0x1f33c04e), (1, 0x1f33c0ce), (2, 0x200000ce), (3, 0x40), (4, 0x1c2), (5, 0x40)], maskAt [(2, 2), (4, 5), (6, 24), (8, 26), (10, 33)]⟩
noncomputable def spec_B0 (a : SHeader) (b c : Int) (k : V -> Option R) : Option R := let d := m_E7 a; let f := decide (b < 0); bif (f == false) then let g := (((List.length d) : Nat) : Int); let i := decide (c < 0); let j : Bool := (bif (decide (b >= g)) then true else i); bif (j == false) then let m := (((List.length a.Components) : Nat) : Int); bif (decide (c >= m)) then k (V.agg [(V.int .i64 0), (V.int .i64 0), (V.int .i64 0), (V.int .i64 0)]) else bif (inR c (List.length a.Components)) then let o := List.getD a.Components (Int.toNat c) []; let e := SComponent.of o; bif (inR b (List.length d)) then let p := List.getD d (Int.toNat b) []; let q := SRect.of p; let r := m_F4 q e.DX e.DY; k (SRect.v r) else none else none else k (V.agg [(V.int .i64 0), (V.int .i64 0), (V.int .i64 0), (V.int .i64 0)]) else k (V.agg [(V.int .i64 0), (V.int .i64 0), (V.int .i64 0), (V.int .i64 0)])
abbrev av_B0 (a : SHeader) (b c : Int) : List V := [(SHeader.v a), V.int .i64 b, V.int .i64 c]
theorem spec_B0_eq (a : SHeader) (b c : Int) (k : V -> Option R) : fnK env_B0 Try.f57 (av_B0 a b c) k = spec_B0 a b c k := by kernel_rfl
theorem mk_B0 (h_E7 : G_E7) (h_F4 : G_F4) (h : ∀ (a : SHeader) (b d : Int), Real (av_B0 a b d) -> spec_B0 a b d some = some (SRect.v (m_B0 a b d))) : G_B0 := goodHook1 fun l hp => by
  unfold hp_B0 at hp
  split at hp
  · rename_i f g i j m o q r s
    exact fn_ok (fn := Try.f57) (c := bodyOf Try.f57) (E := env_B0) ⟨by kernel_rfl, (goodCons h_E7 (goodCons h_F4 goodNil)), rfl⟩ rfl (by kernel_rfl) (by kernel_rfl) (by kernel_rfl) (loopsOK_of _ (by have e : loopsOf (bodyOf Try.f57) = [] := (by kernel_rfl); rw [e]; intro p hp; cases hp)) (fun hr => (spec_B0_eq (SHeader.mk (SRect.mk f g i j) m o q) r s some).trans (h (SHeader.mk (SRect.mk f g i j) m o q) r s hr))
  · cases hp
theorem au_B0 (a : SHeader) (b c : Int) : pre_B0 a b c = true -> spec_B0 a b c some = some ((fun (m : SRect) => (SRect.v m)) (m_B0 a b c)) := by
  repeat' (first | exact fun _ => rfl | exact fun h => absurd h (by decide) | refine bif_p (v := (fun (m : SRect) => (SRect.v m))) ?_ ?_)
theorem good_B0_of (h_E7 : G_E7) (h_F4 : G_F4) : G_B0 := mk_B0 h_E7 h_F4 (fun _ _ _ _ => au_B0 _ _ _ (pt_B0 _ _ _))
noncomputable def env_A5 : Env R := ⟨Try.prog, callNil, fun _ _ _ _ _ => none, Try.f102.results.toList, maskTab 23 [(0, 0x399c07), (1, 0x40)], maskAt [(2, 1)]⟩
noncomputable def spec_A5 (a b c : Int) (k : V -> Option R) : Option R := let d := decide (a >= 0); let e : Bool := (bif d then (decide (a <= c)) else false); let f := decide (b >= 0); let g : Bool := (bif e then f else false); let i : Bool := (bif g then (decide (b <= c)) else false); k (V.bool i)
abbrev av_A5 (a b c : Int) : List V := [V.int .i64 a, V.int .i64 b, V.int .i64 c]
theorem spec_A5_eq (a b c : Int) (k : V -> Option R) : fnK env_A5 Try.f102 (av_A5 a b c) k = spec_A5 a b c k := by kernel_rfl
theorem mk_A5 (h : ∀ (a b d : Int), Real (av_A5 a b d) -> spec_A5 a b d some = some (V.bool (m_A5 a b d))) : G_A5 := goodHook1 fun l hp => by
  unfold hp_A5 at hp
  split at hp
  · rename_i f g i
    exact fn_ok (fn := Try.f102) (c := bodyOf Try.f102) (E := env_A5) ⟨by kernel_rfl, goodNil, rfl⟩ rfl (by kernel_rfl) (by kernel_rfl) (by kernel_rfl) (loopsOK_of _ (by have e : loopsOf (bodyOf Try.f102) = [] := (by kernel_rfl); rw [e]; intro p hp; cases hp)) (fun hr => (spec_A5_eq f g i some).trans (h f g i hr))
  · cases hp
theorem au_A5 (a b c : Int) : spec_A5 a b c some = some ((fun (m : Bool) => (V.bool m)) (m_A5 a b c)) := by
  repeat' (first | rfl | refine bif_t (v := (fun (m : Bool) => (V.bool m))) ?_ ?_)
theorem good_A5_of : G_A5 := mk_A5 (fun _ _ _ _ => au_A5 _ _ _)
noncomputable def env_C2 : Env R := ⟨Try.prog, callNil, fun _ _ _ _ _ => none, Try.f103.results.toList, maskTab 23 [(0, 0x7), (1, 0x46), (2, 0x140), (3, 0xc0)], maskAt [(2, 2), (4, 7), (6, 13)]⟩
noncomputable def spec_C2 (c d a : Int) (k : V -> Option R) : Option R := bif (decide (0 <= (IntKind.wrap .u64 a))) then let b := Int.fdiv c (2 ^ (min (Int.toNat (IntKind.wrap .u64 a)) 64)); let e := IntKind.wrap .i64 (d - 1); bif (decide (0 <= (IntKind.wrap .u64 a))) then let f := Int.fdiv e (2 ^ (min (Int.toNat (IntKind.wrap .u64 a)) 64)); let g := IntKind.wrap .i64 (f - b); let i := IntKind.wrap .i64 (g + 1); k (V.tup [V.int .i64 b, V.int .i64 i]) else none else none
abbrev av_C2 (a b c : Int) : List V := [V.int .i64 a, V.int .i64 b, V.int .i64 c]
theorem spec_C2_eq (a b c : Int) (k : V -> Option R) : fnK env_C2 Try.f103 (av_C2 a b c) k = spec_C2 a b c k := by kernel_rfl
theorem mk_C2 (h : ∀ (a b d : Int), Real (av_C2 a b d) -> spec_C2 a b d some = some (V.tup [(V.int .i64 (m_C2 a b d).1), (V.int .i64 (m_C2 a b d).2)])) : G_C2 := goodHook1 fun l hp => by
  unfold hp_C2 at hp
  split at hp
  · rename_i f g i
    exact fn_ok (fn := Try.f103) (c := bodyOf Try.f103) (E := env_C2) ⟨by kernel_rfl, goodNil, rfl⟩ rfl (by kernel_rfl) (by kernel_rfl) (by kernel_rfl) (loopsOK_of _ (by have e : loopsOf (bodyOf Try.f103) = [] := (by kernel_rfl); rw [e]; intro p hp; cases hp)) (fun hr => (spec_C2_eq f g i some).trans (h f g i hr))
  · cases hp
theorem au_C2 (a b c : Int) : pre_C2 a b c = true -> spec_C2 a b c some = some ((fun (m : Int × Int) => (V.tup [V.int .i64 m.1, V.int .i64 m.2])) (m_C2 a b c)) := by
  repeat' (first | exact fun _ => rfl | exact fun h => absurd h (by decide) | refine bif_p (v := (fun (m : Int × Int) => (V.tup [V.int .i64 m.1, V.int .i64 m.2]))) ?_ ?_)
theorem good_C2_of : G_C2 := mk_C2 (fun _ _ _ _ => au_C2 _ _ _ (pt_C2 _ _ _))
noncomputable def env_C3 : Env R := ⟨Try.prog, callCons 34 c_H1 (callCons 35 c_H2 (callCons 102 c_A5 (callCons 103 c_C2 callNil))), fun _ _ _ _ _ => none, Try.f93.results.toList, maskTab 52 [(0, 0x1f3001e), (1, 0x2000016), (2, 0xf00), (3, 0x514), (4, 0xf00), (5, 0x800000000f00), (6, 0xf00), (7, 0xf00)], maskAt [(2, 5), (4, 19), (6, 23), (8, 34), (10, 45), (12, 49), (14, 53)]⟩
noncomputable def spec_C3 (a : SRect) (d e f : Int) (k : V -> Option R) : Option R := let g := m_H1 a; bif ((!g) == false) then let i := m_H2 a; bif (i == false) then let j := m_A5 d e f; bif (!j) then k (V.tup [(V.int .i64 0), (V.int .i64 0), (V.int .i64 0), (V.int .i64 0)]) else let b := m_C2 a.X0 a.X1 d; let c := m_C2 a.Y0 a.Y1 e; let m := IntKind.wrap .i64 (b.2 * c.2); let o := decide (m > 65536); bif o then k (V.tup [(V.int .i64 0), (V.int .i64 0), (V.int .i64 0), (V.int .i64 0)]) else k (V.tup [V.int .i64 b.1, V.int .i64 c.1, V.int .i64 b.2, V.int .i64 c.2]) else k (V.tup [(V.int .i64 0), (V.int .i64 0), (V.int .i64 0), (V.int .i64 0)]) else k (V.tup [(V.int .i64 0), (V.int .i64 0), (V.int .i64 0), (V.int .i64 0)])
abbrev av_C3 (a : SRect) (b c d : Int) : List V := [(SRect.v a), V.int .i64 b, V.int .i64 c, V.int .i64 d]
theorem spec_C3_eq (a : SRect) (b c d : Int) (k : V -> Option R) : fnK env_C3 Try.f93 (av_C3 a b c d) k = spec_C3 a b c d k := by kernel_rfl
theorem mk_C3 (h_H1 : G_H1) (h_H2 : G_H2) (h_A5 : G_A5) (h_C2 : G_C2) (h : ∀ (a : SRect) (b d f : Int), Real (av_C3 a b d f) -> spec_C3 a b d f some = some (V.tup [(V.int .i64 (m_C3 a b d f).1), (V.int .i64 (m_C3 a b d f).2.1), (V.int .i64 (m_C3 a b d f).2.2.1), (V.int .i64 (m_C3 a b d f).2.2.2)])) : G_C3 := goodHook1 fun l hp => by
  unfold hp_C3 at hp
  split at hp
  · rename_i g i j m o q r
    exact fn_ok (fn := Try.f93) (c := bodyOf Try.f93) (E := env_C3) ⟨by kernel_rfl, (goodCons h_H1 (goodCons h_H2 (goodCons h_A5 (goodCons h_C2 goodNil)))), rfl⟩ rfl (by kernel_rfl) (by kernel_rfl) (by kernel_rfl) (loopsOK_of _ (by have e : loopsOf (bodyOf Try.f93) = [] := (by kernel_rfl); rw [e]; intro p hp; cases hp)) (fun hr => (spec_C3_eq (SRect.mk g i j m) o q r some).trans (h (SRect.mk g i j m) o q r hr))
  · cases hp
theorem au_C3 (a : SRect) (b c d : Int) : spec_C3 a b c d some = some ((fun (m : Int × Int × Int × Int) => (V.tup [V.int .i64 m.1, V.int .i64 m.2.1, V.int .i64 m.2.2.1, V.int .i64 m.2.2.2])) (m_C3 a b c d)) := by
  repeat' (first | rfl | refine bif_t (v := (fun (m : Int × Int × Int × Int) => (V.tup [V.int .i64 m.1, V.int .i64 m.2.1, V.int .i64 m.2.2.1, V.int .i64 m.2.2.2]))) ?_ ?_)
theorem good_C3_of (h_H1 : G_H1) (h_H2 : G_H2) (h_A5 : G_A5) (h_C2 : G_C2) : G_C3 := mk_C3 h_H1 h_H2 h_A5 h_C2 (fun _ _ _ _ _ => au_C3 _ _ _ _)
noncomputable def env_A3 : Env R := ⟨Try.prog, callCons 93 c_C3 callNil, fun _ _ _ _ _ => none, Try.f71.results.toList, maskTab 19 [(0, 0xe), (1, 0xc0), (2, 0xc0)], maskAt [(2, 3), (4, 14)]⟩
noncomputable def spec_A3 (b : SRect) (c d : Int) (k : V -> Option R) : Option R := let a := m_C3 b c d 12; k (V.tup [V.int .i64 a.2.2.1, V.int .i64 a.2.2.2])
abbrev av_A3 (a : SRect) (b c : Int) : List V := [(SRect.v a), V.int .i64 b, V.int .i64 c]
theorem spec_A3_eq (a : SRect) (b c : Int) (k : V -> Option R) : fnK env_A3 Try.f71 (av_A3 a b c) k = spec_A3 a b c k := by kernel_rfl
theorem mk_A3 (h_C3 : G_C3) (h : ∀ (a : SRect) (b d : Int), Real (av_A3 a b d) -> spec_A3 a b d some = some (V.tup [(V.int .i64 (m_A3 a b d).1), (V.int .i64 (m_A3 a b d).2)])) : G_A3 := goodHook1 fun l hp => by
  unfold hp_A3 at hp
  split at hp
  · rename_i f g i j m o
    exact fn_ok (fn := Try.f71) (c := bodyOf Try.f71) (E := env_A3) ⟨by kernel_rfl, (goodCons h_C3 goodNil), rfl⟩ rfl (by kernel_rfl) (by kernel_rfl) (by kernel_rfl) (loopsOK_of _ (by have e : loopsOf (bodyOf Try.f71) = [] := (by kernel_rfl); rw [e]; intro p hp; cases hp)) (fun hr => (spec_A3_eq (SRect.mk f g i j) m o some).trans (h (SRect.mk f g i j) m o hr))
  · cases hp
theorem au_A3 (a : SRect) (b c : Int) : spec_A3 a b c some = some ((fun (m : Int × Int) => (V.tup [V.int .i64 m.1, V.int .i64 m.2])) (m_A3 a b c)) := by
  repeat' (first | rfl | refine bif_t (v := (fun (m : Int × Int) => (V.tup [V.int .i64 m.1, V.int .i64 m.2]))) ?_ ?_)
theorem good_A3_of (h_C3 : G_C3) : G_A3 := mk_A3 h_C3 (fun _ _ _ _ => au_A3 _ _ _)
noncomputable def env_A8 : Env R := ⟨Try.prog, callCons 38 c_D7 (callCons 57 c_B0 (callCons 69 c_A6 (callCons 70 c_B5 (callCons 71 c_A3 callNil)))), fun _ _ _ _ _ => none, Try.f39.results.toList, maskTab 54 [(0, 0x1e60047c), (1, 0x2000047c), (2, 0x1c00), (3, 0x450), (4, 0x2400), (5, 0x1c00), (6, 0x1c00)], maskAt [(2, 5), (4, 21), (6, 25), (8, 34), (10, 39), (12, 50)]⟩
noncomputable def spec_A8 (c : SHeader) (a : SParams) (d e b : Int) (k : V -> Option R) : Option R := let j := m_D7 c a d e; let m := decide (b < 0); let o : Bool := (bif (!j) then true else m); let p := decide (b > a.Levels); let q : Bool := (bif o then true else p); bif q then k (V.tup [(V.agg [(V.int .i64 0), (V.int .i64 0), (V.int .i64 0), (V.int .i64 0)]), (V.int .i64 0), (V.int .i64 0)]) else let r := m_B0 c d e; let f := m_A6 r a.Levels b; let g := m_B5 a b; let i := m_A3 f g.X g.Y; k (V.tup [(SRect.v f), V.int .i64 i.1, V.int .i64 i.2])
abbrev av_A8 (a : SHeader) (b : SParams) (c d e : Int) : List V := [(SHeader.v a), (SParams.v b), V.int .i64 c, V.int .i64 d, V.int .i64 e]
theorem spec_A8_eq (a : SHeader) (b : SParams) (c d e : Int) (k : V -> Option R) : fnK env_A8 Try.f39 (av_A8 a b c d e) k = spec_A8 a b c d e k := by kernel_rfl
theorem mk_A8 (h_D7 : G_D7) (h_B0 : G_B0) (h_A6 : G_A6) (h_B5 : G_B5) (h_A3 : G_A3) (h : ∀ (a : SHeader) (b : SParams) (d f g : Int), Real (av_A8 a b d f g) -> spec_A8 a b d f g some = some (V.tup [(SRect.v (m_A8 a b d f g).1), (V.int .i64 (m_A8 a b d f g).2.1), (V.int .i64 (m_A8 a b d f g).2.2)])) : G_A8 := goodHook1 fun l hp => by
  unfold hp_A8 at hp
  split at hp
  · rename_i i j m o q r s t u v w y z A B D F H I J K L M N O Q S U W
    exact fn_ok (fn := Try.f39) (c := bodyOf Try.f39) (E := env_A8) ⟨by kernel_rfl, (goodCons h_D7 (goodCons h_B0 (goodCons h_A6 (goodCons h_B5 (goodCons h_A3 goodNil))))), rfl⟩ rfl (by kernel_rfl) (by kernel_rfl) (by kernel_rfl) (loopsOK_of _ (by have e : loopsOf (bodyOf Try.f39) = [] := (by kernel_rfl); rw [e]; intro p hp; cases hp)) (fun hr => (spec_A8_eq (SHeader.mk (SRect.mk i j m o) q r s) (SParams.mk t u v w y z A B (SMode.mk D F H I J) K L M N O Q) S U W some).trans (h (SHeader.mk (SRect.mk i j m o) q r s) (SParams.mk t u v w y z A B (SMode.mk D F H I J) K L M N O Q) S U W hr))
  · cases hp
theorem au_A8 (a : SHeader) (b : SParams) (c d e : Int) : spec_A8 a b c d e some = some ((fun (m : SRect × Int × Int) => (V.tup [(SRect.v m.1), V.int .i64 m.2.1, V.int .i64 m.2.2])) (m_A8 a b c d e)) := by
  repeat' (first | rfl | refine bif_t (v := (fun (m : SRect × Int × Int) => (V.tup [(SRect.v m.1), V.int .i64 m.2.1, V.int .i64 m.2.2]))) ?_ ?_)
theorem good_A8_of (h_D7 : G_D7) (h_B0 : G_B0) (h_A6 : G_A6) (h_B5 : G_B5) (h_A3 : G_A3) : G_A8 := mk_A8 h_D7 h_B0 h_A6 h_B5 h_A3 (fun _ _ _ _ _ _ => au_A8 _ _ _ _ _)
noncomputable def fuel_F8_0 (c : Rows) (a b : Int) (d : Rows) : Nat := Int.toNat (a - b) + 1
noncomputable def step_F8_0 (c : Rows) (e : Int) (a : Int) (b : Rows) (again : Int -> Rows -> Option R) (kn : Int -> Rows -> Option R) : Option R := bif (decide (a < e)) then bif (inR a (List.length c)) then let f := List.getD c (Int.toNat a) []; let d := V.toRows (List.getD f 0 V.undef); bif (roomOK ((List.length b) + (List.length d)) 72) then let g := IntKind.wrap .i64 (a + 1); again g (b ++ d) else none else none else kn a b
noncomputable def loop_F8_0 (a : Rows) (b : Int) : Nat -> Int -> Rows -> (Int -> Rows -> Option R) -> Option R
  | 0, _, _, _ => none
  | n + 1, c, d, kn => step_F8_0 a b c d (fun e f => loop_F8_0 a b n e f kn) kn
noncomputable def shape_F8_0 : ST := ⟨unds 3 (.vs 5 :: .undef :: .undef :: .data [.sl SBlockID.sh] :: .int .i64 :: .int .i64 :: unds 8 []), [(5, .vec SBlockID.sh false)], 6⟩
noncomputable def st_F8_0 (a : Rows) (b : Int) (c : Int) (d : Rows) : St := shape_F8_0.put [.r a, .i b, .i c, .r d]
noncomputable def hook_F8_0 : LoopG R := fun l kn _ _ => match l with
  | .r a :: .i b :: .i c :: .r d :: [] => loop_F8_0 a b (fuel_F8_0 a b c d) c d (fun e f => kn (st_F8_0 a b e f))
  | _ => none
noncomputable def env_F8 : Env R := ⟨Try.prog, callNil, fun id => bif Nat.beq id 0 then loopAlt shape_F8_0 hook_F8_0 loopNil else (fun _ _ _ _ _ => none) id, Try.f41.results.toList, maskTab 17 [(0, 0x1), (1, 0x9), (2, 0x1c8), (3, 0x3c8), (4, 0x1e8), (5, 0x1c8), (6, 0x1c8), (7, 0x4)], maskAt [(1, 5), (2, 1), (4, 2), (6, 9), (8, 10), (10, 13), (12, 17), (14, 19)]⟩
theorem step_F8_0_eq (a : Rows) (b : Int) (e : Int) (f : Rows) (kn : St -> Option R) (kx : Nat -> St -> Option R) (kr : V -> Option R) (n : Nat) (g : Int) (i : Rows) :
    loopN env_F8 0 (loopAt Try.f41 0) (st_F8_0 a b e f) kn kx kr (n + 1) (st_F8_0 a b g i) =
    step_F8_0 a b g i (fun c d => loopN env_F8 0 (loopAt Try.f41 0) (st_F8_0 a b e f) kn kx kr n (st_F8_0 a b c d)) (fun c d => kn (st_F8_0 a b c d)) := by kernel_rfl
theorem loop_F8_0_eq (a : Rows) (b : Int) (g : Int) (i : Rows) (kn : St -> Option R) (kx : Nat -> St -> Option R) (kr : V -> Option R) : ∀ (n : Nat) (c : Int) (d : Rows),
    loop_F8_0 a b n c d (fun e f => kn (st_F8_0 a b e f)) = loopN env_F8 0 (loopAt Try.f41 0) (st_F8_0 a b g i) kn kx kr n (st_F8_0 a b c d)
  | 0, _, _ => rfl
  | n + 1, c, d => by
    rw [step_F8_0_eq, loop_F8_0]
    congr 1
    funext e f
    exact loop_F8_0_eq a b g i kn kx kr n e f
theorem goodl_F8_0 {rest} (h : GoodL (R := R) env_F8 0 (loopAt Try.f41 0) rest) : GoodL (R := R) env_F8 0 (loopAt Try.f41 0) (loopAlt shape_F8_0 hook_F8_0 rest) := by
  refine goodL_alt (fun l kn kx kr r h => ?_) h
  unfold hook_F8_0 at h
  split at h
  · rename_i c d a b
    exact ⟨_, (loop_F8_0_eq c d a b kn kx kr _ a b).symm.trans h⟩
  · cases h
theorem good_F8_0 : GoodLoop (R := R) env_F8 0 (loopAt Try.f41 0) := goodL_loop (g := loopAlt shape_F8_0 hook_F8_0 loopNil) (fun _ _ _ _ => rfl) (goodl_F8_0 goodL_nil)
noncomputable def spec_F8 (a : Rows) (k : V -> Option R) : Option R := let b := (((List.length a) : Nat) : Int); loop_F8_0 a b (fuel_F8_0 a b 0 []) 0 [] (fun d c => k (V.data SBlockID.sh c))
abbrev av_F8 (a : Rows) : List V := [(V.data [.sl SBlockID.sh] a)]
theorem spec_F8_eq (a : Rows) (k : V -> Option R) : fnK env_F8 Try.f41 (av_F8 a) k = spec_F8 a k := by kernel_rfl
theorem mk_F8 (h : ∀ (a : Rows), pre_F8 a = true -> Real (av_F8 a) -> spec_F8 a some = some (V.data SBlockID.sh (m_F8 a))) : G_F8 := goodHook1 fun l hp => by
  unfold hp_F8 at hp
  split at hp
  · rename_i b
    exact fn_ok (fn := Try.f41) (c := bodyOf Try.f41) (E := env_F8) ⟨by kernel_rfl, goodNil, rfl⟩ rfl (by kernel_rfl) (by kernel_rfl) (by kernel_rfl) (loopsOK_of _ (by have e : loopsOf (bodyOf Try.f41) = [(0, loopAt Try.f41 0)] := (by kernel_rfl); rw [e]; simp only [List.forall_mem_cons, List.not_mem_nil, false_implies, implies_true, and_true]; exact good_F8_0)) (fun hr => (spec_F8_eq b some).trans (h b hp hr))
  · cases hp
noncomputable def env_B6 : Env R := ⟨Try.prog, callCons 93 c_C3 callNil, fun _ _ _ _ _ => none, Try.f104.results.toList, maskTab 43 [(0, 0xf800001e), (1, 0xf8007808), (2, 0x100003808), (3, 0x700), (4, 0x700)], maskAt [(2, 4), (4, 17), (6, 26), (8, 29)]⟩
noncomputable def spec_B6 (c : SRect) (d e b : Int) (k : V -> Option R) : Option R := let a := m_C3 c d e 12; let f := decide (b < 0); let g := IntKind.wrap .i64 (a.2.2.1 * a.2.2.2); let i : Bool := (bif f then true else (decide (b >= g))); bif i then k (V.tup [(V.int .i64 0), (V.int .i64 0), V.bool false]) else bif (a.2.2.1 != 0) then let j := IntKind.wrap .i64 (a.1 + (Int.tmod b a.2.2.1)); bif (a.2.2.1 != 0) then let m := IntKind.wrap .i64 (Int.tdiv b a.2.2.1); let o := IntKind.wrap .i64 (a.2.1 + m); k (V.tup [V.int .i64 j, V.int .i64 o, V.bool true]) else none else none
abbrev av_B6 (a : SRect) (b c d : Int) : List V := [(SRect.v a), V.int .i64 b, V.int .i64 c, V.int .i64 d]
theorem spec_B6_eq (a : SRect) (b c d : Int) (k : V -> Option R) : fnK env_B6 Try.f104 (av_B6 a b c d) k = spec_B6 a b c d k := by kernel_rfl
theorem mk_B6 (h_C3 : G_C3) (h : ∀ (a : SRect) (b d f : Int), Real (av_B6 a b d f) -> spec_B6 a b d f some = some (V.tup [(V.int .i64 (m_B6 a b d f).1), (V.int .i64 (m_B6 a b d f).2.1), (V.bool (m_B6 a b d f).2.2)])) : G_B6 := goodHook1 fun l hp => by
  unfold hp_B6 at hp
  split at hp
  · rename_i g i j m o q r
    exact fn_ok (fn := Try.f104) (c := bodyOf Try.f104) (E := env_B6) ⟨by kernel_rfl, (goodCons h_C3 goodNil), rfl⟩ rfl (by kernel_rfl) (by kernel_rfl) (by kernel_rfl) (loopsOK_of _ (by have e : loopsOf (bodyOf Try.f104) = [] := (by kernel_rfl); rw [e]; intro p hp; cases hp)) (fun hr => (spec_B6_eq (SRect.mk g i j m) o q r some).trans (h (SRect.mk g i j m) o q r hr))
  · cases hp
theorem au_B6 (a : SRect) (b c d : Int) : pre_B6 a b c d = true -> spec_B6 a b c d some = some ((fun (m : Int × Int × Bool) => (V.tup [V.int .i64 m.1, V.int .i64 m.2.1, V.bool m.2.2])) (m_B6 a b c d)) := by
  repeat' (first | exact fun _ => rfl | exact fun h => absurd h (by decide) | refine bif_p (v := (fun (m : Int × Int × Bool) => (V.tup [V.int .i64 m.1, V.int .i64 m.2.1, V.bool m.2.2]))) ?_ ?_)
theorem good_B6_of (h_C3 : G_C3) : G_B6 := mk_B6 h_C3 (fun _ _ _ _ _ => au_B6 _ _ _ _ (pt_B6 _ _ _ _))
end Go.Vm
