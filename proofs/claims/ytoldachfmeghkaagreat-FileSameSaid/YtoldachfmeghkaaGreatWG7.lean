import Derived.Test.YtoldachfmeghkaaGreatWC
set_option linter.unusedVariables false
set_option linter.unusedSimpArgs false
set_option maxRecDepth 100000
noncomputable section
namespace Go.Vm
open Go.Proofs
noncomputable def fuel_file_Same_0 (r0_0 : Rows) (i0_1 i0_2 : Int) (a1 : SFile) : Nat :=
 Int.toNat (i0_1 - i0_2) + 1
noncomputable def step_file_Same_0 {R : Type} (r0_0 : Rows) (i0_1 : Int) (a1 : SFile) (i0_2 : Int) (again : Int → Option R) (kn : Int → Option R) (kr : V → Option R) : Option R :=
 bif (decide (i0_2 < i0_1)) then
 bif (inR i0_2 (List.length r0_0)) then
 let w6 : List V := (List.getD r0_0 (Int.toNat i0_2) [])
 let s7 : SMeta := (SMeta.of w6)
 bif (inR i0_2 (List.length a1.Meta)) then
 let w8 : List V := (List.getD a1.Meta (Int.toNat i0_2) [])
 let s9 : SMeta := (SMeta.of w8)
 let b10 : Bool := (!((ByteArray.toList s7.Key == ByteArray.toList s9.Key) && ((ByteArray.toList s7.Value == ByteArray.toList s9.Value) && true)))
 bif b10 then
 kr (V.bool false)
 else
 let x11 : Int := (IntKind.wrap .i64 (i0_2 + (1 : Int)))
 again x11
 else none
 else none
 else
 kn i0_2
noncomputable def loop_file_Same_0 {R : Type} (r0_0 : Rows) (i0_1 : Int) (a1 : SFile) : Nat → Int → (Int → Option R) → (V → Option R) → Option R
  | 0, _, _, _ => none
  | n + 1, i0_2, kn, kr => step_file_Same_0 r0_0 i0_1 a1 i0_2 (fun yi0_2 => loop_file_Same_0 r0_0 i0_1 a1 n yi0_2 kn kr) kn kr
noncomputable def shape_file_Same_0 : ST := ⟨unds 3 (.ptr 1 0 0 :: unds 28 (.data SMeta.sh :: .int .i64 :: .int .i64 :: unds 12 [])), [(1, .var SFile.sh false SFile.ts)], 32⟩
noncomputable def st_file_Same_0 (r0_0 : Rows) (i0_1 : Int) (a1 : SFile) (i0_2 : Int) : St := shape_file_Same_0.put [.r r0_0, .i i0_1, .i i0_2, .i a1.Color.Space, .r a1.Color.Roles, .r a1.Color.Palette, .r a1.Meta, .r a1.Stream]
noncomputable def hook_file_Same_0 {R : Type} : LoopG R := fun l kn _ kr => match l with
  | .r r0_0 :: .i i0_1 :: .i i0_2 :: .i a1_Color_Space :: .r a1_Color_Roles :: .r a1_Color_Palette :: .r a1_Meta :: .r a1_Stream :: [] => loop_file_Same_0 r0_0 i0_1 (SFile.mk (SColor.mk a1_Color_Space a1_Color_Roles a1_Color_Palette) a1_Meta a1_Stream) (fuel_file_Same_0 r0_0 i0_1 i0_2 (SFile.mk (SColor.mk a1_Color_Space a1_Color_Roles a1_Color_Palette) a1_Meta a1_Stream)) i0_2 (fun yi0_2 => kn (st_file_Same_0 r0_0 i0_1 (SFile.mk (SColor.mk a1_Color_Space a1_Color_Roles a1_Color_Palette) a1_Meta a1_Stream) yi0_2)) kr
  | _ => none
noncomputable def env_file_Same {R : Type} : Env R := ⟨Tryz.prog, callCons 11 c_colorspec_Same callNil, fun id => bif Nat.beq id 0 then loopAlt shape_file_Same_0 hook_file_Same_0 loopNil else (fun _ _ _ _ _ => none) id, Tryz.f6.results.toList, maskTab 47 [(0, 0x3f9fc00c), (1, 0x4000000c), (2, 0x10), (3, 0x700000008), (4, 0xf00000008), (5, 0x700000068), (6, 0x200700000008), (7, 0x10), (8, 0x700000008), (9, 0x10)], maskAt [(1, 32), (2, 3), (4, 27), (6, 28), (8, 36), (10, 37), (12, 43), (14, 50), (16, 51), (18, 53)], noSort⟩
theorem step_file_Same_0_eq {R : Type} (r0_0 : Rows) (i0_1 : Int) (a1 : SFile) (si0_2 : Int) (kn : St → Option R) (kx : Nat → St → Option R) (kr : V → Option R) (n : Nat) (i0_2 : Int) :
    loopN env_file_Same 0 (loopAt Tryz.f6 0) (st_file_Same_0 r0_0 i0_1 a1 si0_2) kn kx kr (n + 1) (st_file_Same_0 r0_0 i0_1 a1 i0_2) =
    step_file_Same_0 r0_0 i0_1 a1 i0_2 (fun yi0_2 => loopN env_file_Same 0 (loopAt Tryz.f6 0) (st_file_Same_0 r0_0 i0_1 a1 si0_2) kn kx kr n (st_file_Same_0 r0_0 i0_1 a1 yi0_2)) (fun yi0_2 => kn (st_file_Same_0 r0_0 i0_1 a1 yi0_2)) kr := by kernel_rfl
theorem loop_file_Same_0_eq {R : Type} (r0_0 : Rows) (i0_1 : Int) (a1 : SFile) (si0_2 : Int) (kn : St → Option R) (kx : Nat → St → Option R) (kr : V → Option R) : ∀ (n : Nat) (i0_2 : Int),
    loop_file_Same_0 r0_0 i0_1 a1 n i0_2 (fun yi0_2 => kn (st_file_Same_0 r0_0 i0_1 a1 yi0_2)) kr = loopN env_file_Same 0 (loopAt Tryz.f6 0) (st_file_Same_0 r0_0 i0_1 a1 si0_2) kn kx kr n (st_file_Same_0 r0_0 i0_1 a1 i0_2)
  | 0, _ => rfl
  | n + 1, i0_2 => by
    rw [step_file_Same_0_eq, loop_file_Same_0]
    congr 1
    funext yi0_2
    exact loop_file_Same_0_eq r0_0 i0_1 a1 si0_2 kn kx kr n yi0_2
theorem goodl_file_Same_0 {R : Type} {rest} (h : GoodL (R := R) env_file_Same 0 (loopAt Tryz.f6 0) rest) : GoodL (R := R) env_file_Same 0 (loopAt Tryz.f6 0) (loopAlt shape_file_Same_0 hook_file_Same_0 rest) := by
  refine goodL_alt (fun l kn kx kr r h => ?_) h
  unfold hook_file_Same_0 at h
  split at h
  · rename_i r0_0 i0_1 i0_2 a1_Color_Space a1_Color_Roles a1_Color_Palette a1_Meta a1_Stream
    exact ⟨_, (loop_file_Same_0_eq r0_0 i0_1 (SFile.mk (SColor.mk a1_Color_Space a1_Color_Roles a1_Color_Palette) a1_Meta a1_Stream) i0_2 kn kx kr _ i0_2).symm.trans h⟩
  · cases h
theorem good_file_Same_0 {R : Type} : GoodLoop (R := R) env_file_Same 0 (loopAt Tryz.f6 0) := goodL_loop (g := loopAlt shape_file_Same_0 hook_file_Same_0 loopNil) (fun _ _ _ _ => rfl) (goodl_file_Same_0 goodL_nil)
noncomputable def spec_file_Same {R : Type} (a0 a1 : SFile) (k : V → Option R) : Option R :=
 bif (pre_colorspec_Same a0.Color a1.Color) then
 let c1 : Bool := (m_colorspec_Same a0.Color a1.Color)
 bif ((!c1) == false) then
 let x2 : Int := (((List.length a0.Meta) : Nat) : Int)
 let x3 : Int := (((List.length a1.Meta) : Nat) : Int)
 bif ((x2 != x3) == false) then
 let b4 : Bool := (!(ByteArray.toList (bytesOfRows a0.Stream) == ByteArray.toList (bytesOfRows a1.Stream)))
 bif b4 then
 k (V.bool false)
 else
 let x5 : Int := (((List.length a0.Meta) : Nat) : Int)
 loop_file_Same_0 a0.Meta x5 a1 (fuel_file_Same_0 a0.Meta x5 (0 : Int) a1) (0 : Int) (fun i0_z12 =>
 k (V.bool true)) k
 else
 k (V.bool false)
 else
 k (V.bool false)
 else none
abbrev av_file_Same (a0 a1 : SFile) : List V := [(SFile.v a0), (SFile.v a1)]
theorem spec_file_Same_eq {R : Type} (a0 a1 : SFile) (k : V → Option R) : fnK env_file_Same Tryz.f6 (av_file_Same a0 a1) k = spec_file_Same a0 a1 k := by kernel_rfl
theorem ok_file_Same (h_colorspec_Same : G_colorspec_Same) (a0 a1 : SFile) {v : V} (h : Real (av_file_Same a0 a1) → spec_file_Same a0 a1 some = some v) : FunOK Tryz.prog 6 (av_file_Same a0 a1) v :=
  fn_ok (fn := Tryz.f6) (c := bodyOf Tryz.f6) (E := env_file_Same) ⟨by kernel_rfl, (goodCons h_colorspec_Same goodNil), rfl, goodS_no⟩ rfl (by kernel_rfl) (by kernel_rfl) (by kernel_rfl)
  (loopsOK_of _ (by
    have e : loopsOf (bodyOf Tryz.f6) = [(0, loopAt Tryz.f6 0)] := by kernel_rfl
    rw [e]
    simp only [List.forall_mem_cons, List.not_mem_nil, false_implies, implies_true, and_true]
    exact good_file_Same_0))
  (fun hr => (spec_file_Same_eq a0 a1 some).trans (h hr))
theorem mk_file_Same (h_colorspec_Same : G_colorspec_Same) (h : ∀ (a0 a1 : SFile), pre_file_Same a0 a1 = true → Real (av_file_Same a0 a1) → spec_file_Same a0 a1 some = some (V.bool (m_file_Same a0 a1))) : G_file_Same := goodHook1 fun l hp => by
  unfold hp_file_Same at hp
  split at hp
  · rename_i x0 x1 x2 x3 x4 x5 x6 x7 x8 x9
    exact ok_file_Same h_colorspec_Same (SFile.mk (SColor.mk x0 x1 x2) x3 x4) (SFile.mk (SColor.mk x5 x6 x7) x8 x9) fun hr => h (SFile.mk (SColor.mk x0 x1 x2) x3 x4) (SFile.mk (SColor.mk x5 x6 x7) x8 x9) hp hr
  · cases hp
noncomputable def fuel_R46_sameInts_0 (r0_0 r0_1 : Rows) (i0_2 : Int) : Nat :=
 let x3 : Int := (((List.length r0_0) : Nat) : Int)
 Int.toNat (x3 - i0_2) + 1
noncomputable def step_R46_sameInts_0 {R : Type} (r0_0 r0_1 : Rows) (i0_2 : Int) (again : Int → Option R) (kn : Int → Option R) (kr : V → Option R) : Option R :=
 let x3 : Int := (((List.length r0_0) : Nat) : Int)
 bif (decide (i0_2 < x3)) then
 bif (inR i0_2 (List.length r0_0)) then
 let w4 : List V := (List.getD r0_0 (Int.toNat i0_2) [])
 let x5 : Int := (V.toInt (List.getD w4 0 V.undef))
 bif (inR i0_2 (List.length r0_1)) then
 let w6 : List V := (List.getD r0_1 (Int.toNat i0_2) [])
 let x7 : Int := (V.toInt (List.getD w6 0 V.undef))
 bif (x5 != x7) then
 kr (V.bool false)
 else
 let x8 : Int := (IntKind.wrap .i64 (i0_2 + (1 : Int)))
 again x8
 else none
 else none
 else
 kn i0_2
noncomputable def loop_R46_sameInts_0 {R : Type} (r0_0 r0_1 : Rows) : Nat → Int → (Int → Option R) → (V → Option R) → Option R
  | 0, _, _, _ => none
  | n + 1, i0_2, kn, kr => step_R46_sameInts_0 r0_0 r0_1 i0_2 (fun yi0_2 => loop_R46_sameInts_0 r0_0 r0_1 n yi0_2 kn kr) kn kr
noncomputable def shape_R46_sameInts_0 : ST := ⟨.data Sbox_reader.sh :: .data Sbox_reader.sh :: unds 3 (.int .i64 :: unds 20 []), [], 8⟩
noncomputable def st_R46_sameInts_0 (r0_0 r0_1 : Rows) (i0_2 : Int) : St := shape_R46_sameInts_0.put [.r r0_0, .r r0_1, .i i0_2]
noncomputable def hook_R46_sameInts_0 {R : Type} : LoopG R := fun l kn _ kr => match l with
  | .r r0_0 :: .r r0_1 :: .i i0_2 :: [] => loop_R46_sameInts_0 r0_0 r0_1 (fuel_R46_sameInts_0 r0_0 r0_1 i0_2) i0_2 (fun yi0_2 => kn (st_R46_sameInts_0 r0_0 r0_1 yi0_2)) kr
  | _ => none
noncomputable def env_R46_sameInts {R : Type} : Env R := ⟨Tryz.prog, callNil, fun id => bif Nat.beq id 0 then loopAlt shape_R46_sameInts_0 hook_R46_sameInts_0 loopNil else (fun _ _ _ _ _ => none) id, Tryz.f30.results.toList, maskTab 26 [(0, 0x3), (1, 0x403), (2, 0x10), (3, 0x23), (4, 0x4023), (5, 0x23), (6, 0x2000023), (7, 0x10), (8, 0x10)], maskAt [(1, 8), (2, 1), (4, 6), (6, 7), (8, 12), (10, 26), (12, 16), (14, 25), (16, 29)], noSort⟩
theorem step_R46_sameInts_0_eq {R : Type} (r0_0 r0_1 : Rows) (si0_2 : Int) (kn : St → Option R) (kx : Nat → St → Option R) (kr : V → Option R) (n : Nat) (i0_2 : Int) :
    loopN env_R46_sameInts 0 (loopAt Tryz.f30 0) (st_R46_sameInts_0 r0_0 r0_1 si0_2) kn kx kr (n + 1) (st_R46_sameInts_0 r0_0 r0_1 i0_2) =
    step_R46_sameInts_0 r0_0 r0_1 i0_2 (fun yi0_2 => loopN env_R46_sameInts 0 (loopAt Tryz.f30 0) (st_R46_sameInts_0 r0_0 r0_1 si0_2) kn kx kr n (st_R46_sameInts_0 r0_0 r0_1 yi0_2)) (fun yi0_2 => kn (st_R46_sameInts_0 r0_0 r0_1 yi0_2)) kr := by kernel_rfl
theorem loop_R46_sameInts_0_eq {R : Type} (r0_0 r0_1 : Rows) (si0_2 : Int) (kn : St → Option R) (kx : Nat → St → Option R) (kr : V → Option R) : ∀ (n : Nat) (i0_2 : Int),
    loop_R46_sameInts_0 r0_0 r0_1 n i0_2 (fun yi0_2 => kn (st_R46_sameInts_0 r0_0 r0_1 yi0_2)) kr = loopN env_R46_sameInts 0 (loopAt Tryz.f30 0) (st_R46_sameInts_0 r0_0 r0_1 si0_2) kn kx kr n (st_R46_sameInts_0 r0_0 r0_1 i0_2)
  | 0, _ => rfl
  | n + 1, i0_2 => by
    rw [step_R46_sameInts_0_eq, loop_R46_sameInts_0]
    congr 1
    funext yi0_2
    exact loop_R46_sameInts_0_eq r0_0 r0_1 si0_2 kn kx kr n yi0_2
theorem goodl_R46_sameInts_0 {R : Type} {rest} (h : GoodL (R := R) env_R46_sameInts 0 (loopAt Tryz.f30 0) rest) : GoodL (R := R) env_R46_sameInts 0 (loopAt Tryz.f30 0) (loopAlt shape_R46_sameInts_0 hook_R46_sameInts_0 rest) := by
  refine goodL_alt (fun l kn kx kr r h => ?_) h
  unfold hook_R46_sameInts_0 at h
  split at h
  · rename_i r0_0 r0_1 i0_2
    exact ⟨_, (loop_R46_sameInts_0_eq r0_0 r0_1 i0_2 kn kx kr _ i0_2).symm.trans h⟩
  · cases h
theorem good_R46_sameInts_0 {R : Type} : GoodLoop (R := R) env_R46_sameInts 0 (loopAt Tryz.f30 0) := goodL_loop (g := loopAlt shape_R46_sameInts_0 hook_R46_sameInts_0 loopNil) (fun _ _ _ _ => rfl) (goodl_R46_sameInts_0 goodL_nil)
noncomputable def spec_R46_sameInts {R : Type} (a0 a1 : Rows) (k : V → Option R) : Option R :=
 let x1 : Int := (((List.length a0) : Nat) : Int)
 let x2 : Int := (((List.length a1) : Nat) : Int)
 bif (x1 != x2) then
 k (V.bool false)
 else
 loop_R46_sameInts_0 a0 a1 (fuel_R46_sameInts_0 a0 a1 (0 : Int)) (0 : Int) (fun i0_z9 =>
 k (V.bool true)) k
abbrev av_R46_sameInts (a0 a1 : Rows) : List V := [(V.data Sbox_reader.sh a0), (V.data Sbox_reader.sh a1)]
theorem spec_R46_sameInts_eq {R : Type} (a0 a1 : Rows) (k : V → Option R) : fnK env_R46_sameInts Tryz.f30 (av_R46_sameInts a0 a1) k = spec_R46_sameInts a0 a1 k := by kernel_rfl
theorem ok_R46_sameInts (a0 a1 : Rows) {v : V} (h : Real (av_R46_sameInts a0 a1) → spec_R46_sameInts a0 a1 some = some v) : FunOK Tryz.prog 30 (av_R46_sameInts a0 a1) v :=
  fn_ok (fn := Tryz.f30) (c := bodyOf Tryz.f30) (E := env_R46_sameInts) ⟨by kernel_rfl, goodNil, rfl, goodS_no⟩ rfl (by kernel_rfl) (by kernel_rfl) (by kernel_rfl)
  (loopsOK_of _ (by
    have e : loopsOf (bodyOf Tryz.f30) = [(0, loopAt Tryz.f30 0)] := by kernel_rfl
    rw [e]
    simp only [List.forall_mem_cons, List.not_mem_nil, false_implies, implies_true, and_true]
    exact good_R46_sameInts_0))
  (fun hr => (spec_R46_sameInts_eq a0 a1 some).trans (h hr))
theorem mk_R46_sameInts (h : ∀ (a0 a1 : Rows), pre_R46_sameInts a0 a1 = true → Real (av_R46_sameInts a0 a1) → spec_R46_sameInts a0 a1 some = some (V.bool (m_R46_sameInts a0 a1))) : G_R46_sameInts := goodHook1 fun l hp => by
  unfold hp_R46_sameInts at hp
  split at hp
  · rename_i x0 x1
    exact ok_R46_sameInts x0 x1 fun hr => h x0 x1 hp hr
  · cases hp
noncomputable def fuel_R46_Same_0 (i0_0 : Int) (a0 a1 : SColor) : Nat :=
 let x4 : Int := (((List.length a0.Palette) : Nat) : Int)
 Int.toNat (x4 - i0_0) + 1
noncomputable def step_R46_Same_0 {R : Type} (a0 a1 : SColor) (i0_0 : Int) (again : Int → Option R) (kn : Int → Option R) (kr : V → Option R) : Option R :=
 let x4 : Int := (((List.length a0.Palette) : Nat) : Int)
 bif (decide (i0_0 < x4)) then
 bif (inR i0_0 (List.length a0.Palette)) then
 let w5 : List V := (List.getD a0.Palette (Int.toNat i0_0) [])
 let r6 : Rows := (V.toRows (List.getD w5 0 V.undef))
 bif (inR i0_0 (List.length a1.Palette)) then
 let w7 : List V := (List.getD a1.Palette (Int.toNat i0_0) [])
 let r8 : Rows := (V.toRows (List.getD w7 0 V.undef))
 bif (pre_R46_sameInts r6 r8) then
 let c9 : Bool := (m_R46_sameInts r6 r8)
 bif (!c9) then
 kr (V.bool false)
 else
 let x10 : Int := (IntKind.wrap .i64 (i0_0 + (1 : Int)))
 again x10
 else none
 else none
 else none
 else
 kn i0_0
noncomputable def loop_R46_Same_0 {R : Type} (a0 a1 : SColor) : Nat → Int → (Int → Option R) → (V → Option R) → Option R
  | 0, _, _, _ => none
  | n + 1, i0_0, kn, kr => step_R46_Same_0 a0 a1 i0_0 (fun yi0_0 => loop_R46_Same_0 a0 a1 n yi0_0 kn kr) kn kr
noncomputable def shape_R46_Same_0 : ST := ⟨.undef :: .undef :: .ptr 0 0 0 :: .ptr 1 0 0 :: .undef :: .int .i64 :: unds 41 [], [(0, .var SColor.sh false SColor.ts), (1, .var SColor.sh false SColor.ts)], 27⟩
noncomputable def st_R46_Same_0 (a0 a1 : SColor) (i0_0 : Int) : St := shape_R46_Same_0.put [.i i0_0, .i a0.Space, .r a0.Roles, .r a0.Palette, .i a1.Space, .r a1.Roles, .r a1.Palette]
noncomputable def hook_R46_Same_0 {R : Type} : LoopG R := fun l kn _ kr => match l with
  | .i i0_0 :: .i a0_Space :: .r a0_Roles :: .r a0_Palette :: .i a1_Space :: .r a1_Roles :: .r a1_Palette :: [] => loop_R46_Same_0 (SColor.mk a0_Space a0_Roles a0_Palette) (SColor.mk a1_Space a1_Roles a1_Palette) (fuel_R46_Same_0 i0_0 (SColor.mk a0_Space a0_Roles a0_Palette) (SColor.mk a1_Space a1_Roles a1_Palette)) i0_0 (fun yi0_0 => kn (st_R46_Same_0 (SColor.mk a0_Space a0_Roles a0_Palette) (SColor.mk a1_Space a1_Roles a1_Palette) yi0_0)) kr
  | _ => none
noncomputable def env_R46_Same {R : Type} : Env R := ⟨Tryz.prog, callCons 30 c_R46_sameInts callNil, fun id => bif Nat.beq id 0 then loopAlt shape_R46_Same_0 hook_R46_Same_0 loopNil else (fun _ _ _ _ _ => none) id, Tryz.f12.results.toList, maskTab 47 [(0, 0x7f3f00c), (1, 0x800000c), (2, 0x10), (3, 0x2c), (4, 0x10000002c), (5, 0x2c), (6, 0x40000000002c), (7, 0x10), (8, 0x10)], maskAt [(1, 27), (2, 3), (4, 25), (6, 26), (8, 31), (10, 49), (12, 36), (14, 48), (16, 52)], noSort⟩
theorem step_R46_Same_0_eq {R : Type} (a0 a1 : SColor) (si0_0 : Int) (kn : St → Option R) (kx : Nat → St → Option R) (kr : V → Option R) (n : Nat) (i0_0 : Int) :
    loopN env_R46_Same 0 (loopAt Tryz.f12 0) (st_R46_Same_0 a0 a1 si0_0) kn kx kr (n + 1) (st_R46_Same_0 a0 a1 i0_0) =
    step_R46_Same_0 a0 a1 i0_0 (fun yi0_0 => loopN env_R46_Same 0 (loopAt Tryz.f12 0) (st_R46_Same_0 a0 a1 si0_0) kn kx kr n (st_R46_Same_0 a0 a1 yi0_0)) (fun yi0_0 => kn (st_R46_Same_0 a0 a1 yi0_0)) kr := by kernel_rfl
theorem loop_R46_Same_0_eq {R : Type} (a0 a1 : SColor) (si0_0 : Int) (kn : St → Option R) (kx : Nat → St → Option R) (kr : V → Option R) : ∀ (n : Nat) (i0_0 : Int),
    loop_R46_Same_0 a0 a1 n i0_0 (fun yi0_0 => kn (st_R46_Same_0 a0 a1 yi0_0)) kr = loopN env_R46_Same 0 (loopAt Tryz.f12 0) (st_R46_Same_0 a0 a1 si0_0) kn kx kr n (st_R46_Same_0 a0 a1 i0_0)
  | 0, _ => rfl
  | n + 1, i0_0 => by
    rw [step_R46_Same_0_eq, loop_R46_Same_0]
    congr 1
    funext yi0_0
    exact loop_R46_Same_0_eq a0 a1 si0_0 kn kx kr n yi0_0
theorem goodl_R46_Same_0 {R : Type} {rest} (h : GoodL (R := R) env_R46_Same 0 (loopAt Tryz.f12 0) rest) : GoodL (R := R) env_R46_Same 0 (loopAt Tryz.f12 0) (loopAlt shape_R46_Same_0 hook_R46_Same_0 rest) := by
  refine goodL_alt (fun l kn kx kr r h => ?_) h
  unfold hook_R46_Same_0 at h
  split at h
  · rename_i i0_0 a0_Space a0_Roles a0_Palette a1_Space a1_Roles a1_Palette
    exact ⟨_, (loop_R46_Same_0_eq (SColor.mk a0_Space a0_Roles a0_Palette) (SColor.mk a1_Space a1_Roles a1_Palette) i0_0 kn kx kr _ i0_0).symm.trans h⟩
  · cases h
theorem good_R46_Same_0 {R : Type} : GoodLoop (R := R) env_R46_Same 0 (loopAt Tryz.f12 0) := goodL_loop (g := loopAlt shape_R46_Same_0 hook_R46_Same_0 loopNil) (fun _ _ _ _ => rfl) (goodl_R46_Same_0 goodL_nil)
noncomputable def spec_R46_Same {R : Type} (a0 a1 : SColor) (k : V → Option R) : Option R :=
 bif ((a0.Space != a1.Space) == false) then
 bif (pre_R46_sameInts a0.Roles a1.Roles) then
 let c1 : Bool := (m_R46_sameInts a0.Roles a1.Roles)
 bif ((!c1) == false) then
 let x2 : Int := (((List.length a0.Palette) : Nat) : Int)
 let x3 : Int := (((List.length a1.Palette) : Nat) : Int)
 bif (x2 != x3) then
 k (V.bool false)
 else
 loop_R46_Same_0 a0 a1 (fuel_R46_Same_0 (0 : Int) a0 a1) (0 : Int) (fun i0_z11 =>
 k (V.bool true)) k
 else
 k (V.bool false)
 else none
 else
 k (V.bool false)
abbrev av_R46_Same (a0 a1 : SColor) : List V := [(SColor.v a0), (SColor.v a1)]
theorem spec_R46_Same_eq {R : Type} (a0 a1 : SColor) (k : V → Option R) : fnK env_R46_Same Tryz.f12 (av_R46_Same a0 a1) k = spec_R46_Same a0 a1 k := by kernel_rfl
theorem ok_R46_Same (h_R46_sameInts : G_R46_sameInts) (a0 a1 : SColor) {v : V} (h : Real (av_R46_Same a0 a1) → spec_R46_Same a0 a1 some = some v) : FunOK Tryz.prog 12 (av_R46_Same a0 a1) v :=
  fn_ok (fn := Tryz.f12) (c := bodyOf Tryz.f12) (E := env_R46_Same) ⟨by kernel_rfl, (goodCons h_R46_sameInts goodNil), rfl, goodS_no⟩ rfl (by kernel_rfl) (by kernel_rfl) (by kernel_rfl)
  (loopsOK_of _ (by
    have e : loopsOf (bodyOf Tryz.f12) = [(0, loopAt Tryz.f12 0)] := by kernel_rfl
    rw [e]
    simp only [List.forall_mem_cons, List.not_mem_nil, false_implies, implies_true, and_true]
    exact good_R46_Same_0))
  (fun hr => (spec_R46_Same_eq a0 a1 some).trans (h hr))
theorem mk_R46_Same (h_R46_sameInts : G_R46_sameInts) (h : ∀ (a0 a1 : SColor), pre_R46_Same a0 a1 = true → Real (av_R46_Same a0 a1) → spec_R46_Same a0 a1 some = some (V.bool (m_R46_Same a0 a1))) : G_R46_Same := goodHook1 fun l hp => by
  unfold hp_R46_Same at hp
  split at hp
  · rename_i x0 x1 x2 x3 x4 x5
    exact ok_R46_Same h_R46_sameInts (SColor.mk x0 x1 x2) (SColor.mk x3 x4 x5) fun hr => h (SColor.mk x0 x1 x2) (SColor.mk x3 x4 x5) hp hr
  · cases hp
noncomputable def fuel_R47_Same_0 (r0_0 r0_1 : Rows) (i0_2 i0_3 : Int) : Nat :=
 Int.toNat (i0_2 - i0_3) + 1
noncomputable def step_R47_Same_0 {R : Type} (r0_0 r0_1 : Rows) (i0_2 : Int) (i0_3 : Int) (again : Int → Option R) (kn : Int → Option R) (kr : V → Option R) : Option R :=
 bif (decide (i0_3 < i0_2)) then
 bif (inR i0_3 (List.length r0_0)) then
 let w4 : List V := (List.getD r0_0 (Int.toNat i0_3) [])
 let s5 : SMeta := (SMeta.of w4)
 bif (inR i0_3 (List.length r0_1)) then
 let w6 : List V := (List.getD r0_1 (Int.toNat i0_3) [])
 let s7 : SMeta := (SMeta.of w6)
 let b8 : Bool := (!((ByteArray.toList s5.Key == ByteArray.toList s7.Key) && ((ByteArray.toList s5.Value == ByteArray.toList s7.Value) && true)))
 bif b8 then
 kr (V.bool false)
 else
 let x9 : Int := (IntKind.wrap .i64 (i0_3 + (1 : Int)))
 again x9
 else none
 else none
 else
 kn i0_3
noncomputable def loop_R47_Same_0 {R : Type} (r0_0 r0_1 : Rows) (i0_2 : Int) : Nat → Int → (Int → Option R) → (V → Option R) → Option R
  | 0, _, _, _ => none
  | n + 1, i0_3, kn, kr => step_R47_Same_0 r0_0 r0_1 i0_2 i0_3 (fun yi0_3 => loop_R47_Same_0 r0_0 r0_1 i0_2 n yi0_3 kn kr) kn kr
noncomputable def shape_R47_Same_0 : ST := ⟨.data SMeta.sh :: .data SMeta.sh :: unds 10 (.int .i64 :: .int .i64 :: unds 12 []), [], 10⟩
noncomputable def st_R47_Same_0 (r0_0 r0_1 : Rows) (i0_2 : Int) (i0_3 : Int) : St := shape_R47_Same_0.put [.r r0_0, .r r0_1, .i i0_2, .i i0_3]
noncomputable def hook_R47_Same_0 {R : Type} : LoopG R := fun l kn _ kr => match l with
  | .r r0_0 :: .r r0_1 :: .i i0_2 :: .i i0_3 :: [] => loop_R47_Same_0 r0_0 r0_1 i0_2 (fuel_R47_Same_0 r0_0 r0_1 i0_2 i0_3) i0_3 (fun yi0_3 => kn (st_R47_Same_0 r0_0 r0_1 i0_2 yi0_3)) kr
  | _ => none
noncomputable def env_R47_Same {R : Type} : Env R := ⟨Tryz.prog, callNil, fun id => bif Nat.beq id 0 then loopAlt shape_R47_Same_0 hook_R47_Same_0 loopNil else (fun _ _ _ _ _ => none) id, Tryz.f13.results.toList, maskTab 26 [(0, 0x3), (1, 0x403), (2, 0x10), (3, 0x3003), (4, 0x7003), (5, 0x3023), (6, 0x1003003), (7, 0x10), (8, 0x3003), (9, 0x10)], maskAt [(1, 10), (2, 1), (4, 6), (6, 7), (8, 14), (10, 15), (12, 17), (14, 26), (16, 27), (18, 29)], noSort⟩
theorem step_R47_Same_0_eq {R : Type} (r0_0 r0_1 : Rows) (i0_2 : Int) (si0_3 : Int) (kn : St → Option R) (kx : Nat → St → Option R) (kr : V → Option R) (n : Nat) (i0_3 : Int) :
    loopN env_R47_Same 0 (loopAt Tryz.f13 0) (st_R47_Same_0 r0_0 r0_1 i0_2 si0_3) kn kx kr (n + 1) (st_R47_Same_0 r0_0 r0_1 i0_2 i0_3) =
    step_R47_Same_0 r0_0 r0_1 i0_2 i0_3 (fun yi0_3 => loopN env_R47_Same 0 (loopAt Tryz.f13 0) (st_R47_Same_0 r0_0 r0_1 i0_2 si0_3) kn kx kr n (st_R47_Same_0 r0_0 r0_1 i0_2 yi0_3)) (fun yi0_3 => kn (st_R47_Same_0 r0_0 r0_1 i0_2 yi0_3)) kr := by kernel_rfl
theorem loop_R47_Same_0_eq {R : Type} (r0_0 r0_1 : Rows) (i0_2 : Int) (si0_3 : Int) (kn : St → Option R) (kx : Nat → St → Option R) (kr : V → Option R) : ∀ (n : Nat) (i0_3 : Int),
    loop_R47_Same_0 r0_0 r0_1 i0_2 n i0_3 (fun yi0_3 => kn (st_R47_Same_0 r0_0 r0_1 i0_2 yi0_3)) kr = loopN env_R47_Same 0 (loopAt Tryz.f13 0) (st_R47_Same_0 r0_0 r0_1 i0_2 si0_3) kn kx kr n (st_R47_Same_0 r0_0 r0_1 i0_2 i0_3)
  | 0, _ => rfl
  | n + 1, i0_3 => by
    rw [step_R47_Same_0_eq, loop_R47_Same_0]
    congr 1
    funext yi0_3
    exact loop_R47_Same_0_eq r0_0 r0_1 i0_2 si0_3 kn kx kr n yi0_3
theorem goodl_R47_Same_0 {R : Type} {rest} (h : GoodL (R := R) env_R47_Same 0 (loopAt Tryz.f13 0) rest) : GoodL (R := R) env_R47_Same 0 (loopAt Tryz.f13 0) (loopAlt shape_R47_Same_0 hook_R47_Same_0 rest) := by
  refine goodL_alt (fun l kn kx kr r h => ?_) h
  unfold hook_R47_Same_0 at h
  split at h
  · rename_i r0_0 r0_1 i0_2 i0_3
    exact ⟨_, (loop_R47_Same_0_eq r0_0 r0_1 i0_2 i0_3 kn kx kr _ i0_3).symm.trans h⟩
  · cases h
theorem good_R47_Same_0 {R : Type} : GoodLoop (R := R) env_R47_Same 0 (loopAt Tryz.f13 0) := goodL_loop (g := loopAlt shape_R47_Same_0 hook_R47_Same_0 loopNil) (fun _ _ _ _ => rfl) (goodl_R47_Same_0 goodL_nil)
noncomputable def spec_R47_Same {R : Type} (a0 a1 : Rows) (k : V → Option R) : Option R :=
 let x1 : Int := (((List.length a0) : Nat) : Int)
 let x2 : Int := (((List.length a1) : Nat) : Int)
 bif (x1 != x2) then
 k (V.bool false)
 else
 let x3 : Int := (((List.length a0) : Nat) : Int)
 loop_R47_Same_0 a0 a1 x3 (fuel_R47_Same_0 a0 a1 x3 (0 : Int)) (0 : Int) (fun i0_z10 =>
 k (V.bool true)) k
abbrev av_R47_Same (a0 a1 : Rows) : List V := [(V.data SMeta.sh a0), (V.data SMeta.sh a1)]
theorem spec_R47_Same_eq {R : Type} (a0 a1 : Rows) (k : V → Option R) : fnK env_R47_Same Tryz.f13 (av_R47_Same a0 a1) k = spec_R47_Same a0 a1 k := by kernel_rfl
theorem ok_R47_Same (a0 a1 : Rows) {v : V} (h : Real (av_R47_Same a0 a1) → spec_R47_Same a0 a1 some = some v) : FunOK Tryz.prog 13 (av_R47_Same a0 a1) v :=
  fn_ok (fn := Tryz.f13) (c := bodyOf Tryz.f13) (E := env_R47_Same) ⟨by kernel_rfl, goodNil, rfl, goodS_no⟩ rfl (by kernel_rfl) (by kernel_rfl) (by kernel_rfl)
  (loopsOK_of _ (by
    have e : loopsOf (bodyOf Tryz.f13) = [(0, loopAt Tryz.f13 0)] := by kernel_rfl
    rw [e]
    simp only [List.forall_mem_cons, List.not_mem_nil, false_implies, implies_true, and_true]
    exact good_R47_Same_0))
  (fun hr => (spec_R47_Same_eq a0 a1 some).trans (h hr))
theorem mk_R47_Same (h : ∀ (a0 a1 : Rows), pre_R47_Same a0 a1 = true → Real (av_R47_Same a0 a1) → spec_R47_Same a0 a1 some = some (V.bool (m_R47_Same a0 a1))) : G_R47_Same := goodHook1 fun l hp => by
  unfold hp_R47_Same at hp
  split at hp
  · rename_i x0 x1
    exact ok_R47_Same x0 x1 fun hr => h x0 x1 hp hr
  · cases hp
noncomputable def env_R27_SameBytes {R : Type} : Env R := ⟨Tryz.prog, callNil, fun _ _ _ _ _ => none, Tryz.f14.results.toList, maskTab 10 [(0, 0x3), (1, 0x10)], maskAt [(2, 1)], noSort⟩
noncomputable def spec_R27_SameBytes {R : Type} (a0 a1 : Rows) (k : V → Option R) : Option R :=
 let b1 : Bool := (ByteArray.toList (bytesOfRows a0) == ByteArray.toList (bytesOfRows a1))
 k (V.bool b1)
abbrev av_R27_SameBytes (a0 a1 : Rows) : List V := [(V.data [.int .u8] a0), (V.data [.int .u8] a1)]
theorem spec_R27_SameBytes_eq {R : Type} (a0 a1 : Rows) (k : V → Option R) : fnK env_R27_SameBytes Tryz.f14 (av_R27_SameBytes a0 a1) k = spec_R27_SameBytes a0 a1 k := by kernel_rfl
theorem ok_R27_SameBytes (a0 a1 : Rows) {v : V} (h : Real (av_R27_SameBytes a0 a1) → spec_R27_SameBytes a0 a1 some = some v) : FunOK Tryz.prog 14 (av_R27_SameBytes a0 a1) v :=
  fn_ok (fn := Tryz.f14) (c := bodyOf Tryz.f14) (E := env_R27_SameBytes) ⟨by kernel_rfl, goodNil, rfl, goodS_no⟩ rfl (by kernel_rfl) (by kernel_rfl) (by kernel_rfl)
  (loopsOK_of _ (by
    have e : loopsOf (bodyOf Tryz.f14) = [] := by kernel_rfl
    rw [e]
    intro p hp; cases hp))
  (fun hr => (spec_R27_SameBytes_eq a0 a1 some).trans (h hr))
theorem mk_R27_SameBytes (h : ∀ (a0 a1 : Rows), Real (av_R27_SameBytes a0 a1) → spec_R27_SameBytes a0 a1 some = some (V.bool (m_R27_SameBytes a0 a1))) : G_R27_SameBytes := goodHook1 fun l hp => by
  unfold hp_R27_SameBytes at hp
  split at hp
  · rename_i x0 x1
    exact ok_R27_SameBytes x0 x1 fun hr => h x0 x1 hr
  · cases hp
theorem au_R27_SameBytes (a0 a1 : Rows) : spec_R27_SameBytes a0 a1 some = some ((fun (m : Bool) => (V.bool m)) (m_R27_SameBytes a0 a1)) := by
  repeat' (first | rfl | refine bif_t (v := (fun (m : Bool) => (V.bool m))) ?_ ?_)
theorem good_R27_SameBytes_of : G_R27_SameBytes := mk_R27_SameBytes (fun _ _ _ => au_R27_SameBytes _ _)
noncomputable def env_R48_Same {R : Type} : Env R := ⟨Tryz.prog, callCons 12 c_R46_Same (callCons 13 c_R47_Same (callCons 14 c_R27_SameBytes callNil)), fun _ _ _ _ _ => none, Tryz.f7.results.toList, maskTab 24 [(0, 0x7cf80c), (1, 0x10)], maskAt [(2, 3)], noSort⟩
noncomputable def spec_R48_Same {R : Type} (a0 a1 : SFile) (k : V → Option R) : Option R :=
 bif (pre_R46_Same a0.Color a1.Color) then
 let c1 : Bool := (m_R46_Same a0.Color a1.Color)
 bif (c1 == true) then
 bif (pre_R47_Same a0.Meta a1.Meta) then
 let c2 : Bool := (m_R47_Same a0.Meta a1.Meta)
 bif (c2 == true) then
 let c3 : Bool := (m_R27_SameBytes a0.Stream a1.Stream)
 k (V.bool c3)
 else
 k (V.bool false)
 else none
 else
 k (V.bool false)
 else none
abbrev av_R48_Same (a0 a1 : SFile) : List V := [(SFile.v a0), (SFile.v a1)]
theorem spec_R48_Same_eq {R : Type} (a0 a1 : SFile) (k : V → Option R) : fnK env_R48_Same Tryz.f7 (av_R48_Same a0 a1) k = spec_R48_Same a0 a1 k := by kernel_rfl
theorem ok_R48_Same (h_R46_Same : G_R46_Same) (h_R47_Same : G_R47_Same) (h_R27_SameBytes : G_R27_SameBytes) (a0 a1 : SFile) {v : V} (h : Real (av_R48_Same a0 a1) → spec_R48_Same a0 a1 some = some v) : FunOK Tryz.prog 7 (av_R48_Same a0 a1) v :=
  fn_ok (fn := Tryz.f7) (c := bodyOf Tryz.f7) (E := env_R48_Same) ⟨by kernel_rfl, (goodCons h_R46_Same (goodCons h_R47_Same (goodCons h_R27_SameBytes goodNil))), rfl, goodS_no⟩ rfl (by kernel_rfl) (by kernel_rfl) (by kernel_rfl)
  (loopsOK_of _ (by
    have e : loopsOf (bodyOf Tryz.f7) = [] := by kernel_rfl
    rw [e]
    intro p hp; cases hp))
  (fun hr => (spec_R48_Same_eq a0 a1 some).trans (h hr))
theorem mk_R48_Same (h_R46_Same : G_R46_Same) (h_R47_Same : G_R47_Same) (h_R27_SameBytes : G_R27_SameBytes) (h : ∀ (a0 a1 : SFile), pre_R48_Same a0 a1 = true → Real (av_R48_Same a0 a1) → spec_R48_Same a0 a1 some = some (V.bool (m_R48_Same a0 a1))) : G_R48_Same := goodHook1 fun l hp => by
  unfold hp_R48_Same at hp
  split at hp
  · rename_i x0 x1 x2 x3 x4 x5 x6 x7 x8 x9
    exact ok_R48_Same h_R46_Same h_R47_Same h_R27_SameBytes (SFile.mk (SColor.mk x0 x1 x2) x3 x4) (SFile.mk (SColor.mk x5 x6 x7) x8 x9) fun hr => h (SFile.mk (SColor.mk x0 x1 x2) x3 x4) (SFile.mk (SColor.mk x5 x6 x7) x8 x9) hp hr
  · cases hp
theorem au_R48_Same (a0 a1 : SFile) : pre_R48_Same a0 a1 = true → spec_R48_Same a0 a1 some = some ((fun (m : Bool) => (V.bool m)) (m_R48_Same a0 a1)) := by
  repeat' (first | exact fun _ => rfl | exact fun h => absurd h (by decide) | refine bif_p (v := (fun (m : Bool) => (V.bool m))) ?_ ?_)
theorem good_R48_Same_of (h_R46_Same : G_R46_Same) (h_R47_Same : G_R47_Same) (h_R27_SameBytes : G_R27_SameBytes) : G_R48_Same := mk_R48_Same h_R46_Same h_R47_Same h_R27_SameBytes (fun _ _ hp _ => au_R48_Same _ _ hp)
noncomputable def env_L48_FileSame {R : Type} : Env R := ⟨Tryz.prog, callCons 4 c_R48_Few (callCons 5 c_L48_awake (callCons 6 c_file_Same (callCons 7 c_R48_Same callNil))), fun _ _ _ _ _ => none, Tryz.f3.results.toList, maskTab 29 [(0, 0x9c00e0c), (1, 0x9c0100c), (2, 0x10), (3, 0x10)], maskAt [(2, 3), (4, 11), (6, 13)], noSort⟩
noncomputable def spec_L48_FileSame {R : Type} (a0 a1 : SFile) (k : V → Option R) : Option R :=
 bif (pre_R48_Few a0) then
 let c1 : Bool := (m_R48_Few a0)
 bif ((!c1) == false) then
 bif (pre_R48_Few a1) then
 let c2 : Bool := (m_R48_Few a1)
 bif (!c2) then
 let c3 : Bool := m_L48_awake
 k (V.bool c3)
 else
 bif (pre_file_Same a0 a1) then
 let c4 : Bool := (m_file_Same a0 a1)
 bif (pre_R48_Same a0 a1) then
 let c5 : Bool := (m_R48_Same a0 a1)
 bif ((c4 == c5) == true) then
 bif (pre_file_Same a0 a0) then
 let c6 : Bool := (m_file_Same a0 a0)
 bif (c6 == true) then
 let c7 : Bool := m_L48_awake
 k (V.bool c7)
 else
 k (V.bool false)
 else none
 else
 k (V.bool false)
 else none
 else none
 else none
 else
 let c8 : Bool := m_L48_awake
 k (V.bool c8)
 else none
abbrev av_L48_FileSame (a0 a1 : SFile) : List V := [(SFile.v a0), (SFile.v a1)]
theorem spec_L48_FileSame_eq {R : Type} (a0 a1 : SFile) (k : V → Option R) : fnK env_L48_FileSame Tryz.f3 (av_L48_FileSame a0 a1) k = spec_L48_FileSame a0 a1 k := by kernel_rfl
theorem ok_L48_FileSame (h_R48_Few : G_R48_Few) (h_L48_awake : G_L48_awake) (h_file_Same : G_file_Same) (h_R48_Same : G_R48_Same) (a0 a1 : SFile) {v : V} (h : Real (av_L48_FileSame a0 a1) → spec_L48_FileSame a0 a1 some = some v) : FunOK Tryz.prog 3 (av_L48_FileSame a0 a1) v :=
  fn_ok (fn := Tryz.f3) (c := bodyOf Tryz.f3) (E := env_L48_FileSame) ⟨by kernel_rfl, (goodCons h_R48_Few (goodCons h_L48_awake (goodCons h_file_Same (goodCons h_R48_Same goodNil)))), rfl, goodS_no⟩ rfl (by kernel_rfl) (by kernel_rfl) (by kernel_rfl)
  (loopsOK_of _ (by
    have e : loopsOf (bodyOf Tryz.f3) = [] := by kernel_rfl
    rw [e]
    intro p hp; cases hp))
  (fun hr => (spec_L48_FileSame_eq a0 a1 some).trans (h hr))
theorem mk_L48_FileSame (h_R48_Few : G_R48_Few) (h_L48_awake : G_L48_awake) (h_file_Same : G_file_Same) (h_R48_Same : G_R48_Same) (h : ∀ (a0 a1 : SFile), pre_L48_FileSame a0 a1 = true → Real (av_L48_FileSame a0 a1) → spec_L48_FileSame a0 a1 some = some (V.bool (m_L48_FileSame a0 a1))) : G_L48_FileSame := goodHook1 fun l hp => by
  unfold hp_L48_FileSame at hp
  split at hp
  · rename_i x0 x1 x2 x3 x4 x5 x6 x7 x8 x9
    exact ok_L48_FileSame h_R48_Few h_L48_awake h_file_Same h_R48_Same (SFile.mk (SColor.mk x0 x1 x2) x3 x4) (SFile.mk (SColor.mk x5 x6 x7) x8 x9) fun hr => h (SFile.mk (SColor.mk x0 x1 x2) x3 x4) (SFile.mk (SColor.mk x5 x6 x7) x8 x9) hp hr
  · cases hp
end Go.Vm
