import Derived.Test.YtplgoojpbnobiaaGreatWC
set_option linter.unusedVariables false
set_option linter.unusedSimpArgs false
set_option maxRecDepth 100000
noncomputable section
namespace Go.Vm
open Go.Proofs
noncomputable def fuel_rect_Bound_0 (b0_0 : Bool) (r0_1 : Rows) (i0_2 i0_3 i0_4 i0_5 i0_6 i0_7 i0_8 i0_9 i0_10 i0_11 : Int) : Nat :=
 Int.toNat (i0_2 - i0_3) + 1
noncomputable def step_rect_Bound_0 {R : Type} (r0_1 : Rows) (i0_2 i0_4 i0_5 i0_6 i0_7 : Int) (b0_0 : Bool) (i0_3 i0_8 i0_9 i0_10 i0_11 : Int) (again : Bool → Int → Int → Int → Int → Int → Option R) (kn : Bool → Int → Int → Int → Int → Int → Option R) : Option R :=
 bif (decide (i0_3 < i0_2)) then
 bif (inR i0_3 (List.length r0_1)) then
 let w2 : List V := (List.getD r0_1 (Int.toNat i0_3) [])
 let s3 : SRect := (SRect.of w2)
 let c4 : Bool := (m_rect_Empty s3)
 bif c4 then
 let x5 : Int := (IntKind.wrap .i64 (i0_3 + (1 : Int)))
 again b0_0 x5 i0_8 i0_9 i0_10 i0_11
 else
 bif (!b0_0) then
 let x6 : Int := (IntKind.wrap .i64 (i0_3 + (1 : Int)))
 again true x6 s3.X0 s3.Y0 s3.X1 s3.Y1
 else
 let x7 : Int := (bif (decide (s3.X0 < i0_8)) then s3.X0 else i0_8)
 let x8 : Int := (bif (decide (s3.Y0 < i0_9)) then s3.Y0 else i0_9)
 let x9 : Int := (bif (decide (s3.X1 > i0_10)) then s3.X1 else i0_10)
 let x10 : Int := (bif (decide (s3.Y1 > i0_11)) then s3.Y1 else i0_11)
 let x11 : Int := (IntKind.wrap .i64 (i0_3 + (1 : Int)))
 again b0_0 x11 x7 x8 x9 x10
 else none
 else
 kn b0_0 i0_3 i0_8 i0_9 i0_10 i0_11
noncomputable def loop_rect_Bound_0 {R : Type} (r0_1 : Rows) (i0_2 i0_4 i0_5 i0_6 i0_7 : Int) : Nat → Bool → Int → Int → Int → Int → Int → (Bool → Int → Int → Int → Int → Int → Option R) → Option R
  | 0, _, _, _, _, _, _, _ => none
  | n + 1, b0_0, i0_3, i0_8, i0_9, i0_10, i0_11, kn => step_rect_Bound_0 r0_1 i0_2 i0_4 i0_5 i0_6 i0_7 b0_0 i0_3 i0_8 i0_9 i0_10 i0_11 (fun yb0_0 yi0_3 yi0_8 yi0_9 yi0_10 yi0_11 => loop_rect_Bound_0 r0_1 i0_2 i0_4 i0_5 i0_6 i0_7 n yb0_0 yi0_3 yi0_8 yi0_9 yi0_10 yi0_11 kn) kn
noncomputable def shape_rect_Bound_0 : ST := ⟨.undef :: .undef :: .ptr 0 0 0 :: .ptr 1 0 0 :: .bool :: .undef :: .undef :: .data SRect.sh :: .int .i64 :: .int .i64 :: unds 31 [], [(0, .var SRect.sh false SRect.ts), (1, .var SRect.sh false SRect.ts)], 6⟩
noncomputable def st_rect_Bound_0 (r0_1 : Rows) (i0_2 i0_4 i0_5 i0_6 i0_7 : Int) (b0_0 : Bool) (i0_3 i0_8 i0_9 i0_10 i0_11 : Int) : St := shape_rect_Bound_0.put [.b b0_0, .r r0_1, .i i0_2, .i i0_3, .i i0_4, .i i0_5, .i i0_6, .i i0_7, .i i0_8, .i i0_9, .i i0_10, .i i0_11]
noncomputable def hook_rect_Bound_0 {R : Type} : LoopG R := fun l kn _ _ => match l with
  | .b b0_0 :: .r r0_1 :: .i i0_2 :: .i i0_3 :: .i i0_4 :: .i i0_5 :: .i i0_6 :: .i i0_7 :: .i i0_8 :: .i i0_9 :: .i i0_10 :: .i i0_11 :: [] => loop_rect_Bound_0 r0_1 i0_2 i0_4 i0_5 i0_6 i0_7 (fuel_rect_Bound_0 b0_0 r0_1 i0_2 i0_3 i0_4 i0_5 i0_6 i0_7 i0_8 i0_9 i0_10 i0_11) b0_0 i0_3 i0_8 i0_9 i0_10 i0_11 (fun yb0_0 yi0_3 yi0_8 yi0_9 yi0_10 yi0_11 => kn (st_rect_Bound_0 r0_1 i0_2 i0_4 i0_5 i0_6 i0_7 yb0_0 yi0_3 yi0_8 yi0_9 yi0_10 yi0_11))
  | _ => none
noncomputable def env_rect_Bound {R : Type} : Env R := ⟨Tryz.prog, callCons 39 c_rect_Empty callNil, fun id => bif Nat.beq id 0 then loopAlt shape_rect_Bound_0 hook_rect_Bound_0 loopNil else (fun _ _ _ _ _ => none) id, Tryz.f27.results.toList, maskTab 41 [(0, 0x5), (1, 0xd), (2, 0x1d), (3, 0x39c), (4, 0x79c), (5, 0x3dc), (6, 0x43dc), (7, 0x103dc), (8, 0x39c), (9, 0x39c), (10, 0x39c), (11, 0x4)], maskAt [(1, 6), (2, 1), (4, 2), (6, 3), (8, 10), (10, 11), (12, 15), (14, 17), (16, 19), (18, 22), (20, 44), (22, 46)], noSort⟩
theorem step_rect_Bound_0_eq {R : Type} (r0_1 : Rows) (i0_2 i0_4 i0_5 i0_6 i0_7 : Int) (sb0_0 : Bool) (si0_3 si0_8 si0_9 si0_10 si0_11 : Int) (kn : St → Option R) (kx : Nat → St → Option R) (kr : V → Option R) (n : Nat) (b0_0 : Bool) (i0_3 i0_8 i0_9 i0_10 i0_11 : Int) :
    loopN env_rect_Bound 0 (loopAt Tryz.f27 0) (st_rect_Bound_0 r0_1 i0_2 i0_4 i0_5 i0_6 i0_7 sb0_0 si0_3 si0_8 si0_9 si0_10 si0_11) kn kx kr (n + 1) (st_rect_Bound_0 r0_1 i0_2 i0_4 i0_5 i0_6 i0_7 b0_0 i0_3 i0_8 i0_9 i0_10 i0_11) =
    step_rect_Bound_0 r0_1 i0_2 i0_4 i0_5 i0_6 i0_7 b0_0 i0_3 i0_8 i0_9 i0_10 i0_11 (fun yb0_0 yi0_3 yi0_8 yi0_9 yi0_10 yi0_11 => loopN env_rect_Bound 0 (loopAt Tryz.f27 0) (st_rect_Bound_0 r0_1 i0_2 i0_4 i0_5 i0_6 i0_7 sb0_0 si0_3 si0_8 si0_9 si0_10 si0_11) kn kx kr n (st_rect_Bound_0 r0_1 i0_2 i0_4 i0_5 i0_6 i0_7 yb0_0 yi0_3 yi0_8 yi0_9 yi0_10 yi0_11)) (fun yb0_0 yi0_3 yi0_8 yi0_9 yi0_10 yi0_11 => kn (st_rect_Bound_0 r0_1 i0_2 i0_4 i0_5 i0_6 i0_7 yb0_0 yi0_3 yi0_8 yi0_9 yi0_10 yi0_11)) := by kernel_rfl
theorem loop_rect_Bound_0_eq {R : Type} (r0_1 : Rows) (i0_2 i0_4 i0_5 i0_6 i0_7 : Int) (sb0_0 : Bool) (si0_3 si0_8 si0_9 si0_10 si0_11 : Int) (kn : St → Option R) (kx : Nat → St → Option R) (kr : V → Option R) : ∀ (n : Nat) (b0_0 : Bool) (i0_3 i0_8 i0_9 i0_10 i0_11 : Int),
    loop_rect_Bound_0 r0_1 i0_2 i0_4 i0_5 i0_6 i0_7 n b0_0 i0_3 i0_8 i0_9 i0_10 i0_11 (fun yb0_0 yi0_3 yi0_8 yi0_9 yi0_10 yi0_11 => kn (st_rect_Bound_0 r0_1 i0_2 i0_4 i0_5 i0_6 i0_7 yb0_0 yi0_3 yi0_8 yi0_9 yi0_10 yi0_11)) = loopN env_rect_Bound 0 (loopAt Tryz.f27 0) (st_rect_Bound_0 r0_1 i0_2 i0_4 i0_5 i0_6 i0_7 sb0_0 si0_3 si0_8 si0_9 si0_10 si0_11) kn kx kr n (st_rect_Bound_0 r0_1 i0_2 i0_4 i0_5 i0_6 i0_7 b0_0 i0_3 i0_8 i0_9 i0_10 i0_11)
  | 0, _, _, _, _, _, _ => rfl
  | n + 1, b0_0, i0_3, i0_8, i0_9, i0_10, i0_11 => by
    rw [step_rect_Bound_0_eq, loop_rect_Bound_0]
    congr 1
    funext yb0_0 yi0_3 yi0_8 yi0_9 yi0_10 yi0_11
    exact loop_rect_Bound_0_eq r0_1 i0_2 i0_4 i0_5 i0_6 i0_7 sb0_0 si0_3 si0_8 si0_9 si0_10 si0_11 kn kx kr n yb0_0 yi0_3 yi0_8 yi0_9 yi0_10 yi0_11
theorem goodl_rect_Bound_0 {R : Type} {rest} (h : GoodL (R := R) env_rect_Bound 0 (loopAt Tryz.f27 0) rest) : GoodL (R := R) env_rect_Bound 0 (loopAt Tryz.f27 0) (loopAlt shape_rect_Bound_0 hook_rect_Bound_0 rest) := by
  refine goodL_alt (fun l kn kx kr r h => ?_) h
  unfold hook_rect_Bound_0 at h
  split at h
  · rename_i b0_0 r0_1 i0_2 i0_3 i0_4 i0_5 i0_6 i0_7 i0_8 i0_9 i0_10 i0_11
    exact ⟨_, (loop_rect_Bound_0_eq r0_1 i0_2 i0_4 i0_5 i0_6 i0_7 b0_0 i0_3 i0_8 i0_9 i0_10 i0_11 kn kx kr _ b0_0 i0_3 i0_8 i0_9 i0_10 i0_11).symm.trans h⟩
  · cases h
theorem good_rect_Bound_0 {R : Type} : GoodLoop (R := R) env_rect_Bound 0 (loopAt Tryz.f27 0) := goodL_loop (g := loopAlt shape_rect_Bound_0 hook_rect_Bound_0 loopNil) (fun _ _ _ _ => rfl) (goodl_rect_Bound_0 goodL_nil)
noncomputable def spec_rect_Bound {R : Type} (a0 : Rows) (k : V → Option R) : Option R :=
 let x1 : Int := (((List.length a0) : Nat) : Int)
 loop_rect_Bound_0 a0 x1 (0 : Int) (0 : Int) (0 : Int) (0 : Int) (fuel_rect_Bound_0 false a0 x1 (0 : Int) (0 : Int) (0 : Int) (0 : Int) (0 : Int) (0 : Int) (0 : Int) (0 : Int) (0 : Int)) false (0 : Int) (0 : Int) (0 : Int) (0 : Int) (0 : Int) (fun b0_z12 i0_z13 i0_z14 i0_z15 i0_z16 i0_z17 =>
 k (V.agg [(V.int .i64 i0_z14), (V.int .i64 i0_z15), (V.int .i64 i0_z16), (V.int .i64 i0_z17)]))
abbrev av_rect_Bound (a0 : Rows) : List V := [(V.data SRect.sh a0)]
theorem spec_rect_Bound_eq {R : Type} (a0 : Rows) (k : V → Option R) : fnK env_rect_Bound Tryz.f27 (av_rect_Bound a0) k = spec_rect_Bound a0 k := by kernel_rfl
theorem ok_rect_Bound (h_rect_Empty : G_rect_Empty) (a0 : Rows) {v : V} (h : Real (av_rect_Bound a0) → spec_rect_Bound a0 some = some v) : FunOK Tryz.prog 27 (av_rect_Bound a0) v :=
  fn_ok (fn := Tryz.f27) (c := bodyOf Tryz.f27) (E := env_rect_Bound) ⟨by kernel_rfl, (goodCons h_rect_Empty goodNil), rfl, goodS_no⟩ rfl (by kernel_rfl) (by kernel_rfl) (by kernel_rfl)
  (loopsOK_of _ (by
    have e : loopsOf (bodyOf Tryz.f27) = [(0, loopAt Tryz.f27 0)] := by kernel_rfl
    rw [e]
    simp only [List.forall_mem_cons, List.not_mem_nil, false_implies, implies_true, and_true]
    exact good_rect_Bound_0))
  (fun hr => (spec_rect_Bound_eq a0 some).trans (h hr))
theorem mk_rect_Bound (h_rect_Empty : G_rect_Empty) (h : ∀ (a0 : Rows), pre_rect_Bound a0 = true → Real (av_rect_Bound a0) → spec_rect_Bound a0 some = some (SRect.v (m_rect_Bound a0))) : G_rect_Bound := goodHook1 fun l hp => by
  unfold hp_rect_Bound at hp
  split at hp
  · rename_i x0
    exact ok_rect_Bound h_rect_Empty x0 fun hr => h x0 hp hr
  · cases hp
noncomputable def env_crop_Area {R : Type} : Env R := ⟨Tryz.prog, callCons 14 c_params_Header (callCons 25 c_crop_touched (callCons 26 c_rect_Valid (callCons 27 c_rect_Bound callNil))), fun _ _ _ _ _ => none, Tryz.f10.results.toList, maskTab 28 [(0, 0xe0001c), (1, 0xe0005c), (2, 0xe0085c), (3, 0x30), (4, 0xe00098), (5, 0x1000090), (6, 0x30), (7, 0x30)], maskAt [(2, 4), (4, 7), (6, 9), (8, 13), (10, 17), (12, 25), (14, 28)], noSort⟩
noncomputable def spec_crop_Area {R : Type} (a0 : SHeader) (a1 : SRect) (k : V → Option R) : Option R :=
 let c1 : Int := (m_params_Header a0)
 bif (c1 != (0 : Int)) then
 k (V.tup [(V.agg [(V.int .i64 (0 : Int)), (V.int .i64 (0 : Int)), (V.int .i64 (0 : Int)), (V.int .i64 (0 : Int))]), (V.int .i64 c1)])
 else
 let c2 : Rows := (m_crop_touched a0 a1)
 let c3 : Bool := (m_rect_Valid a1)
 bif ((!c3) == false) then
 let x4 : Int := (((List.length c2) : Nat) : Int)
 bif (x4 == (0 : Int)) then
 k (V.tup [(V.agg [(V.int .i64 (0 : Int)), (V.int .i64 (0 : Int)), (V.int .i64 (0 : Int)), (V.int .i64 (0 : Int))]), (V.int .i64 (2 : Int))])
 else
 bif (pre_rect_Bound c2) then
 let c5 : SRect := (m_rect_Bound c2)
 k (V.tup [(SRect.v c5), (V.int .i64 (0 : Int))])
 else none
 else
 k (V.tup [(V.agg [(V.int .i64 (0 : Int)), (V.int .i64 (0 : Int)), (V.int .i64 (0 : Int)), (V.int .i64 (0 : Int))]), (V.int .i64 (2 : Int))])
abbrev av_crop_Area (a0 : SHeader) (a1 : SRect) : List V := [(SHeader.v a0), (SRect.v a1)]
theorem spec_crop_Area_eq {R : Type} (a0 : SHeader) (a1 : SRect) (k : V → Option R) : fnK env_crop_Area Tryz.f10 (av_crop_Area a0 a1) k = spec_crop_Area a0 a1 k := by kernel_rfl
theorem ok_crop_Area (h_params_Header : G_params_Header) (h_crop_touched : G_crop_touched) (h_rect_Valid : G_rect_Valid) (h_rect_Bound : G_rect_Bound) (a0 : SHeader) (a1 : SRect) {v : V} (h : Real (av_crop_Area a0 a1) → spec_crop_Area a0 a1 some = some v) : FunOK Tryz.prog 10 (av_crop_Area a0 a1) v :=
  fn_ok (fn := Tryz.f10) (c := bodyOf Tryz.f10) (E := env_crop_Area) ⟨by kernel_rfl, (goodCons h_params_Header (goodCons h_crop_touched (goodCons h_rect_Valid (goodCons h_rect_Bound goodNil)))), rfl, goodS_no⟩ rfl (by kernel_rfl) (by kernel_rfl) (by kernel_rfl)
  (loopsOK_of _ (by
    have e : loopsOf (bodyOf Tryz.f10) = [] := by kernel_rfl
    rw [e]
    intro p hp; cases hp))
  (fun hr => (spec_crop_Area_eq a0 a1 some).trans (h hr))
theorem mk_crop_Area (h_params_Header : G_params_Header) (h_crop_touched : G_crop_touched) (h_rect_Valid : G_rect_Valid) (h_rect_Bound : G_rect_Bound) (h : ∀ (a0 : SHeader) (a1 : SRect), pre_crop_Area a0 a1 = true → Real (av_crop_Area a0 a1) → spec_crop_Area a0 a1 some = some (V.tup [(SRect.v (m_crop_Area a0 a1).1), (V.int .i64 (m_crop_Area a0 a1).2)])) : G_crop_Area := goodHook1 fun l hp => by
  unfold hp_crop_Area at hp
  split at hp
  · rename_i x0 x1 x2 x3 x4 x5 x6 x7 x8 x9 x10
    exact ok_crop_Area h_params_Header h_crop_touched h_rect_Valid h_rect_Bound (SHeader.mk (SRect.mk x0 x1 x2 x3) x4 x5 x6) (SRect.mk x7 x8 x9 x10) fun hr => h (SHeader.mk (SRect.mk x0 x1 x2 x3) x4 x5 x6) (SRect.mk x7 x8 x9 x10) hp hr
  · cases hp
theorem au_crop_Area (a0 : SHeader) (a1 : SRect) : pre_crop_Area a0 a1 = true → spec_crop_Area a0 a1 some = some ((fun (m : SRect × Int) => (V.tup [(SRect.v m.1), (V.int .i64 m.2)])) (m_crop_Area a0 a1)) := by
  repeat' (first | exact fun _ => rfl | exact fun h => absurd h (by decide) | refine bif_p (v := (fun (m : SRect × Int) => (V.tup [(SRect.v m.1), (V.int .i64 m.2)]))) ?_ ?_)
theorem good_crop_Area_of (h_params_Header : G_params_Header) (h_crop_touched : G_crop_touched) (h_rect_Valid : G_rect_Valid) (h_rect_Bound : G_rect_Bound) : G_crop_Area := mk_crop_Area h_params_Header h_crop_touched h_rect_Valid h_rect_Bound (fun _ _ hp _ => au_crop_Area _ _ hp)
noncomputable def env_L44_exampleHolds {R : Type} : Env R := ⟨Tryz.prog, callCons 10 c_crop_Area (callCons 23 c_crop_Join (callCons 24 c_crop_Replace callNil)), fun _ _ _ _ _ => none, Tryz.f9.results.toList, maskTab 72 [(0, 0x739999800000000000), (1, 0x739999800000000002), (2, 0x73999980000000000e), (3, 0x73999980000000003e), (4, 0x7399998000000000bc), (5, 0x7399998000000002bc), (6, 0x739999800000000abc), (7, 0x1)], maskAt [(2, 1), (4, 7), (6, 16), (8, 25), (10, 34), (12, 41), (14, 48)], noSort⟩
noncomputable def spec_L44_exampleHolds {R : Type} (k : V → Option R) : Option R :=
 bif (pre_crop_Area (SHeader.mk (SRect.mk (1 : Int) (2 : Int) (14 : Int) (11 : Int)) (8 : Int) (8 : Int) [[(V.int .i64 (8 : Int)), (V.bool false), (V.int .i64 (1 : Int)), (V.int .i64 (1 : Int))]]) (SRect.mk (9 : Int) (3 : Int) (10 : Int) (4 : Int))) then
 let c1 : SRect × Int := (m_crop_Area (SHeader.mk (SRect.mk (1 : Int) (2 : Int) (14 : Int) (11 : Int)) (8 : Int) (8 : Int) [[(V.int .i64 (8 : Int)), (V.bool false), (V.int .i64 (1 : Int)), (V.int .i64 (1 : Int))]]) (SRect.mk (9 : Int) (3 : Int) (10 : Int) (4 : Int)))
 bif (pre_crop_Area (SHeader.mk (SRect.mk (1 : Int) (2 : Int) (14 : Int) (11 : Int)) (8 : Int) (8 : Int) [[(V.int .i64 (8 : Int)), (V.bool false), (V.int .i64 (1 : Int)), (V.int .i64 (1 : Int))]]) (SRect.mk (7 : Int) (7 : Int) (9 : Int) (8 : Int))) then
 let c2 : SRect × Int := (m_crop_Area (SHeader.mk (SRect.mk (1 : Int) (2 : Int) (14 : Int) (11 : Int)) (8 : Int) (8 : Int) [[(V.int .i64 (8 : Int)), (V.bool false), (V.int .i64 (1 : Int)), (V.int .i64 (1 : Int))]]) (SRect.mk (7 : Int) (7 : Int) (9 : Int) (8 : Int)))
 bif (pre_crop_Area (SHeader.mk (SRect.mk (1 : Int) (2 : Int) (14 : Int) (11 : Int)) (8 : Int) (8 : Int) [[(V.int .i64 (8 : Int)), (V.bool false), (V.int .i64 (1 : Int)), (V.int .i64 (1 : Int))]]) (SRect.mk (0 : Int) (0 : Int) (1 : Int) (2 : Int))) then
 let c3 : SRect × Int := (m_crop_Area (SHeader.mk (SRect.mk (1 : Int) (2 : Int) (14 : Int) (11 : Int)) (8 : Int) (8 : Int) [[(V.int .i64 (8 : Int)), (V.bool false), (V.int .i64 (1 : Int)), (V.int .i64 (1 : Int))]]) (SRect.mk (0 : Int) (0 : Int) (1 : Int) (2 : Int)))
 bif (pre_crop_Join [[(V.int .u8 (1 : Int))], [(V.int .u8 (2 : Int))]] []) then
 let c4 : Rows × Int := (m_crop_Join [[(V.int .u8 (1 : Int))], [(V.int .u8 (2 : Int))]] [])
 bif (pre_crop_Replace [[(V.int .u8 (1 : Int))], [(V.int .u8 (2 : Int))]] [] (5 : Int)) then
 let c5 : Rows × Int := (m_crop_Replace [[(V.int .u8 (1 : Int))], [(V.int .u8 (2 : Int))]] [] (5 : Int))
 let b6 : Bool := (bif (c1.2 == (0 : Int)) then (c2.2 == (0 : Int)) else false)
 let b7 : Bool := (bif b6 then (c3.2 == (2 : Int)) else false)
 let b8 : Bool := (bif b7 then (c4.2 == (10 : Int)) else false)
 let b9 : Bool := (bif b8 then (c5.2 == (10 : Int)) else false)
 let b10 : Bool := ((c1.1.X0 == (8 : Int)) && ((c1.1.Y0 == (2 : Int)) && ((c1.1.X1 == (14 : Int)) && ((c1.1.Y1 == (8 : Int)) && true))))
 let b11 : Bool := (bif b9 then b10 else false)
 let b12 : Bool := ((c2.1.X0 == (1 : Int)) && ((c2.1.Y0 == (2 : Int)) && ((c2.1.X1 == (14 : Int)) && ((c2.1.Y1 == (8 : Int)) && true))))
 let b13 : Bool := (bif b11 then b12 else false)
 k (V.bool b13)
 else none
 else none
 else none
 else none
 else none
abbrev av_L44_exampleHolds : List V := []
theorem spec_L44_exampleHolds_eq {R : Type} (k : V → Option R) : fnK env_L44_exampleHolds Tryz.f9 (av_L44_exampleHolds) k = spec_L44_exampleHolds k := by kernel_rfl
theorem ok_L44_exampleHolds (h_crop_Area : G_crop_Area) (h_crop_Join : G_crop_Join) (h_crop_Replace : G_crop_Replace) {v : V} (h : Real (av_L44_exampleHolds) → spec_L44_exampleHolds some = some v) : FunOK Tryz.prog 9 (av_L44_exampleHolds) v :=
  fn_ok (fn := Tryz.f9) (c := bodyOf Tryz.f9) (E := env_L44_exampleHolds) ⟨by kernel_rfl, (goodCons h_crop_Area (goodCons h_crop_Join (goodCons h_crop_Replace goodNil))), rfl, goodS_no⟩ rfl (by kernel_rfl) (by kernel_rfl) (by kernel_rfl)
  (loopsOK_of _ (by
    have e : loopsOf (bodyOf Tryz.f9) = [] := by kernel_rfl
    rw [e]
    intro p hp; cases hp))
  (fun hr => (spec_L44_exampleHolds_eq some).trans (h hr))
theorem mk_L44_exampleHolds (h_crop_Area : G_crop_Area) (h_crop_Join : G_crop_Join) (h_crop_Replace : G_crop_Replace) (h : Real (av_L44_exampleHolds) → spec_L44_exampleHolds some = some (V.bool m_L44_exampleHolds)) : G_L44_exampleHolds := goodHook1 fun l hp => by
  unfold hp_L44_exampleHolds at hp
  split at hp
  · skip
    exact ok_L44_exampleHolds h_crop_Area h_crop_Join h_crop_Replace fun hr => h hr
  · cases hp
noncomputable def env_R01_Valid {R : Type} : Env R := ⟨Tryz.prog, callNil, fun _ _ _ _ _ => none, Tryz.f28.results.toList, maskTab 35 [(0, 0x39f39cf82), (1, 0x4)], maskAt [(2, 2)], noSort⟩
noncomputable def spec_R01_Valid {R : Type} (a0 : SRect) (k : V → Option R) : Option R :=
 let b1 : Bool := (decide ((0 : Int) ≤ a0.X0))
 let b2 : Bool := (bif b1 then (decide (a0.X0 ≤ a0.X1)) else false)
 let b3 : Bool := (decide (a0.X1 ≤ (4096 : Int)))
 let b4 : Bool := (bif b2 then b3 else false)
 let b5 : Bool := (decide ((0 : Int) ≤ a0.Y0))
 let b6 : Bool := (bif b4 then b5 else false)
 let b7 : Bool := (bif b6 then (decide (a0.Y0 ≤ a0.Y1)) else false)
 let b8 : Bool := (decide (a0.Y1 ≤ (4096 : Int)))
 let b9 : Bool := (bif b7 then b8 else false)
 k (V.bool b9)
abbrev av_R01_Valid (a0 : SRect) : List V := [(SRect.v a0)]
theorem spec_R01_Valid_eq {R : Type} (a0 : SRect) (k : V → Option R) : fnK env_R01_Valid Tryz.f28 (av_R01_Valid a0) k = spec_R01_Valid a0 k := by kernel_rfl
theorem ok_R01_Valid (a0 : SRect) {v : V} (h : Real (av_R01_Valid a0) → spec_R01_Valid a0 some = some v) : FunOK Tryz.prog 28 (av_R01_Valid a0) v :=
  fn_ok (fn := Tryz.f28) (c := bodyOf Tryz.f28) (E := env_R01_Valid) ⟨by kernel_rfl, goodNil, rfl, goodS_no⟩ rfl (by kernel_rfl) (by kernel_rfl) (by kernel_rfl)
  (loopsOK_of _ (by
    have e : loopsOf (bodyOf Tryz.f28) = [] := by kernel_rfl
    rw [e]
    intro p hp; cases hp))
  (fun hr => (spec_R01_Valid_eq a0 some).trans (h hr))
theorem mk_R01_Valid (h : ∀ (a0 : SRect), Real (av_R01_Valid a0) → spec_R01_Valid a0 some = some (V.bool (m_R01_Valid a0))) : G_R01_Valid := goodHook1 fun l hp => by
  unfold hp_R01_Valid at hp
  split at hp
  · rename_i x0 x1 x2 x3
    exact ok_R01_Valid (SRect.mk x0 x1 x2 x3) fun hr => h (SRect.mk x0 x1 x2 x3) hr
  · cases hp
theorem au_R01_Valid (a0 : SRect) : spec_R01_Valid a0 some = some ((fun (m : Bool) => (V.bool m)) (m_R01_Valid a0)) := by
  repeat' (first | rfl | refine bif_t (v := (fun (m : Bool) => (V.bool m))) ?_ ?_)
theorem good_R01_Valid_of : G_R01_Valid := mk_R01_Valid (fun _ _ => au_R01_Valid _)
noncomputable def env_R01_CeilDiv {R : Type} : Env R := ⟨Tryz.prog, callNil, fun _ _ _ _ _ => none, Tryz.f50.results.toList, maskTab 18 [(0, 0x3), (1, 0x83), (2, 0x10), (3, 0x23), (4, 0x4020), (5, 0x20), (6, 0x10)], maskAt [(2, 1), (4, 3), (6, 4), (8, 8), (10, 12), (12, 15)], noSort⟩
noncomputable def spec_R01_CeilDiv {R : Type} (a0 a1 : Int) (k : V → Option R) : Option R :=
 let b1 : Bool := (decide (a1 < (1 : Int)))
 bif b1 then
 k (V.int .i64 (0 : Int))
 else
 bif (a1 != 0) then
 let x2 : Int := (IntKind.wrap .i64 (Int.tdiv a0 a1))
 bif (a1 != 0) then
 let b3 : Bool := (decide ((Int.tmod a0 a1) > (0 : Int)))
 bif b3 then
 let x4 : Int := (IntKind.wrap .i64 (x2 + (1 : Int)))
 k (V.int .i64 x4)
 else
 k (V.int .i64 x2)
 else none
 else none
abbrev av_R01_CeilDiv (a0 a1 : Int) : List V := [(V.int .i64 a0), (V.int .i64 a1)]
theorem spec_R01_CeilDiv_eq {R : Type} (a0 a1 : Int) (k : V → Option R) : fnK env_R01_CeilDiv Tryz.f50 (av_R01_CeilDiv a0 a1) k = spec_R01_CeilDiv a0 a1 k := by kernel_rfl
theorem ok_R01_CeilDiv (a0 a1 : Int) {v : V} (h : Real (av_R01_CeilDiv a0 a1) → spec_R01_CeilDiv a0 a1 some = some v) : FunOK Tryz.prog 50 (av_R01_CeilDiv a0 a1) v :=
  fn_ok (fn := Tryz.f50) (c := bodyOf Tryz.f50) (E := env_R01_CeilDiv) ⟨by kernel_rfl, goodNil, rfl, goodS_no⟩ rfl (by kernel_rfl) (by kernel_rfl) (by kernel_rfl)
  (loopsOK_of _ (by
    have e : loopsOf (bodyOf Tryz.f50) = [] := by kernel_rfl
    rw [e]
    intro p hp; cases hp))
  (fun hr => (spec_R01_CeilDiv_eq a0 a1 some).trans (h hr))
theorem mk_R01_CeilDiv (h : ∀ (a0 a1 : Int), Real (av_R01_CeilDiv a0 a1) → spec_R01_CeilDiv a0 a1 some = some (V.int .i64 (m_R01_CeilDiv a0 a1))) : G_R01_CeilDiv := goodHook1 fun l hp => by
  unfold hp_R01_CeilDiv at hp
  split at hp
  · rename_i x0 x1
    exact ok_R01_CeilDiv x0 x1 fun hr => h x0 x1 hr
  · cases hp
theorem au_R01_CeilDiv (a0 a1 : Int) : pre_R01_CeilDiv a0 a1 = true → spec_R01_CeilDiv a0 a1 some = some ((fun (m : Int) => (V.int .i64 m)) (m_R01_CeilDiv a0 a1)) := by
  repeat' (first | exact fun _ => rfl | exact fun h => absurd h (by decide) | refine bif_p (v := (fun (m : Int) => (V.int .i64 m))) ?_ ?_)
theorem good_R01_CeilDiv_of : G_R01_CeilDiv := mk_R01_CeilDiv (fun _ _ _ => au_R01_CeilDiv _ _ (pt_R01_CeilDiv _ _))
noncomputable def env_R01_Reduce {R : Type} : Env R := ⟨Tryz.prog, callCons 28 c_R01_Valid (callCons 50 c_R01_CeilDiv callNil), fun _ _ _ _ _ => none, Tryz.f20.results.toList, maskTab 44 [(0, 0x199984e), (1, 0x200004e), (2, 0x40), (3, 0x40)], maskAt [(2, 2), (4, 21), (6, 23)], noSort⟩
noncomputable def spec_R01_Reduce {R : Type} (a0 : SRect) (a1 a2 : Int) (k : V → Option R) : Option R :=
 let c1 : Bool := (m_R01_Valid a0)
 let b2 : Bool := (decide (a1 < (1 : Int)))
 let b3 : Bool := (bif (!c1) then true else b2)
 let b4 : Bool := (decide (a1 > (4096 : Int)))
 let b5 : Bool := (bif b3 then true else b4)
 let b6 : Bool := (decide (a2 < (1 : Int)))
 let b7 : Bool := (bif b5 then true else b6)
 let b8 : Bool := (decide (a2 > (4096 : Int)))
 let b9 : Bool := (bif b7 then true else b8)
 bif b9 then
 k (V.agg [(V.int .i64 (0 : Int)), (V.int .i64 (0 : Int)), (V.int .i64 (0 : Int)), (V.int .i64 (0 : Int))])
 else
 let c10 : Int := (m_R01_CeilDiv a0.X0 a1)
 let c11 : Int := (m_R01_CeilDiv a0.Y0 a2)
 let c12 : Int := (m_R01_CeilDiv a0.X1 a1)
 let c13 : Int := (m_R01_CeilDiv a0.Y1 a2)
 k (V.agg [(V.int .i64 c10), (V.int .i64 c11), (V.int .i64 c12), (V.int .i64 c13)])
abbrev av_R01_Reduce (a0 : SRect) (a1 a2 : Int) : List V := [(SRect.v a0), (V.int .i64 a1), (V.int .i64 a2)]
theorem spec_R01_Reduce_eq {R : Type} (a0 : SRect) (a1 a2 : Int) (k : V → Option R) : fnK env_R01_Reduce Tryz.f20 (av_R01_Reduce a0 a1 a2) k = spec_R01_Reduce a0 a1 a2 k := by kernel_rfl
theorem ok_R01_Reduce (h_R01_Valid : G_R01_Valid) (h_R01_CeilDiv : G_R01_CeilDiv) (a0 : SRect) (a1 a2 : Int) {v : V} (h : Real (av_R01_Reduce a0 a1 a2) → spec_R01_Reduce a0 a1 a2 some = some v) : FunOK Tryz.prog 20 (av_R01_Reduce a0 a1 a2) v :=
  fn_ok (fn := Tryz.f20) (c := bodyOf Tryz.f20) (E := env_R01_Reduce) ⟨by kernel_rfl, (goodCons h_R01_Valid (goodCons h_R01_CeilDiv goodNil)), rfl, goodS_no⟩ rfl (by kernel_rfl) (by kernel_rfl) (by kernel_rfl)
  (loopsOK_of _ (by
    have e : loopsOf (bodyOf Tryz.f20) = [] := by kernel_rfl
    rw [e]
    intro p hp; cases hp))
  (fun hr => (spec_R01_Reduce_eq a0 a1 a2 some).trans (h hr))
theorem mk_R01_Reduce (h_R01_Valid : G_R01_Valid) (h_R01_CeilDiv : G_R01_CeilDiv) (h : ∀ (a0 : SRect) (a1 a2 : Int), Real (av_R01_Reduce a0 a1 a2) → spec_R01_Reduce a0 a1 a2 some = some (SRect.v (m_R01_Reduce a0 a1 a2))) : G_R01_Reduce := goodHook1 fun l hp => by
  unfold hp_R01_Reduce at hp
  split at hp
  · rename_i x0 x1 x2 x3 x4 x5
    exact ok_R01_Reduce h_R01_Valid h_R01_CeilDiv (SRect.mk x0 x1 x2 x3) x4 x5 fun hr => h (SRect.mk x0 x1 x2 x3) x4 x5 hr
  · cases hp
theorem au_R01_Reduce (a0 : SRect) (a1 a2 : Int) : spec_R01_Reduce a0 a1 a2 some = some ((fun (m : SRect) => (SRect.v m)) (m_R01_Reduce a0 a1 a2)) := by
  repeat' (first | rfl | refine bif_t (v := (fun (m : SRect) => (SRect.v m))) ?_ ?_)
theorem good_R01_Reduce_of (h_R01_Valid : G_R01_Valid) (h_R01_CeilDiv : G_R01_CeilDiv) : G_R01_Reduce := mk_R01_Reduce h_R01_Valid h_R01_CeilDiv (fun _ _ _ _ => au_R01_Reduce _ _ _)
noncomputable def env_R01_Empty {R : Type} : Env R := ⟨Tryz.prog, callNil, fun _ _ _ _ _ => none, Tryz.f29.results.toList, maskTab 15 [(0, 0x3e02), (1, 0x4)], maskAt [(2, 2)], noSort⟩
noncomputable def spec_R01_Empty {R : Type} (a0 : SRect) (k : V → Option R) : Option R :=
 let b1 : Bool := (bif (decide (a0.X0 ≥ a0.X1)) then true else (decide (a0.Y0 ≥ a0.Y1)))
 k (V.bool b1)
abbrev av_R01_Empty (a0 : SRect) : List V := [(SRect.v a0)]
theorem spec_R01_Empty_eq {R : Type} (a0 : SRect) (k : V → Option R) : fnK env_R01_Empty Tryz.f29 (av_R01_Empty a0) k = spec_R01_Empty a0 k := by kernel_rfl
theorem ok_R01_Empty (a0 : SRect) {v : V} (h : Real (av_R01_Empty a0) → spec_R01_Empty a0 some = some v) : FunOK Tryz.prog 29 (av_R01_Empty a0) v :=
  fn_ok (fn := Tryz.f29) (c := bodyOf Tryz.f29) (E := env_R01_Empty) ⟨by kernel_rfl, goodNil, rfl, goodS_no⟩ rfl (by kernel_rfl) (by kernel_rfl) (by kernel_rfl)
  (loopsOK_of _ (by
    have e : loopsOf (bodyOf Tryz.f29) = [] := by kernel_rfl
    rw [e]
    intro p hp; cases hp))
  (fun hr => (spec_R01_Empty_eq a0 some).trans (h hr))
theorem mk_R01_Empty (h : ∀ (a0 : SRect), Real (av_R01_Empty a0) → spec_R01_Empty a0 some = some (V.bool (m_R01_Empty a0))) : G_R01_Empty := goodHook1 fun l hp => by
  unfold hp_R01_Empty at hp
  split at hp
  · rename_i x0 x1 x2 x3
    exact ok_R01_Empty (SRect.mk x0 x1 x2 x3) fun hr => h (SRect.mk x0 x1 x2 x3) hr
  · cases hp
theorem au_R01_Empty (a0 : SRect) : spec_R01_Empty a0 some = some ((fun (m : Bool) => (V.bool m)) (m_R01_Empty a0)) := by
  repeat' (first | rfl | refine bif_t (v := (fun (m : Bool) => (V.bool m))) ?_ ?_)
theorem good_R01_Empty_of : G_R01_Empty := mk_R01_Empty (fun _ _ => au_R01_Empty _)
noncomputable def env_R23_in {R : Type} : Env R := ⟨Tryz.prog, callNil, fun _ _ _ _ _ => none, Tryz.f47.results.toList, maskTab 15 [(0, 0x3807), (1, 0x40)], maskAt [(2, 1)], noSort⟩
noncomputable def spec_R23_in {R : Type} (a0 a1 a2 : Int) (k : V → Option R) : Option R :=
 let b1 : Bool := (bif (decide (a1 ≤ a0)) then (decide (a0 ≤ a2)) else false)
 k (V.bool b1)
abbrev av_R23_in (a0 a1 a2 : Int) : List V := [(V.int .i64 a0), (V.int .i64 a1), (V.int .i64 a2)]
theorem spec_R23_in_eq {R : Type} (a0 a1 a2 : Int) (k : V → Option R) : fnK env_R23_in Tryz.f47 (av_R23_in a0 a1 a2) k = spec_R23_in a0 a1 a2 k := by kernel_rfl
theorem ok_R23_in (a0 a1 a2 : Int) {v : V} (h : Real (av_R23_in a0 a1 a2) → spec_R23_in a0 a1 a2 some = some v) : FunOK Tryz.prog 47 (av_R23_in a0 a1 a2) v :=
  fn_ok (fn := Tryz.f47) (c := bodyOf Tryz.f47) (E := env_R23_in) ⟨by kernel_rfl, goodNil, rfl, goodS_no⟩ rfl (by kernel_rfl) (by kernel_rfl) (by kernel_rfl)
  (loopsOK_of _ (by
    have e : loopsOf (bodyOf Tryz.f47) = [] := by kernel_rfl
    rw [e]
    intro p hp; cases hp))
  (fun hr => (spec_R23_in_eq a0 a1 a2 some).trans (h hr))
theorem mk_R23_in (h : ∀ (a0 a1 a2 : Int), Real (av_R23_in a0 a1 a2) → spec_R23_in a0 a1 a2 some = some (V.bool (m_R23_in a0 a1 a2))) : G_R23_in := goodHook1 fun l hp => by
  unfold hp_R23_in at hp
  split at hp
  · rename_i x0 x1 x2
    exact ok_R23_in x0 x1 x2 fun hr => h x0 x1 x2 hr
  · cases hp
theorem au_R23_in (a0 a1 a2 : Int) : spec_R23_in a0 a1 a2 some = some ((fun (m : Bool) => (V.bool m)) (m_R23_in a0 a1 a2)) := by
  repeat' (first | rfl | refine bif_t (v := (fun (m : Bool) => (V.bool m))) ?_ ?_)
theorem good_R23_in_of : G_R23_in := mk_R23_in (fun _ _ _ _ => au_R23_in _ _ _)
noncomputable def env_R01_FloorDiv {R : Type} : Env R := ⟨Tryz.prog, callNil, fun _ _ _ _ _ => none, Tryz.f71.results.toList, maskTab 18 [(0, 0x3), (1, 0x83), (2, 0x10), (3, 0x23), (4, 0x4020), (5, 0x20), (6, 0x10)], maskAt [(2, 1), (4, 3), (6, 4), (8, 8), (10, 12), (12, 15)], noSort⟩
noncomputable def spec_R01_FloorDiv {R : Type} (a0 a1 : Int) (k : V → Option R) : Option R :=
 let b1 : Bool := (decide (a1 < (1 : Int)))
 bif b1 then
 k (V.int .i64 (0 : Int))
 else
 bif (a1 != 0) then
 let x2 : Int := (IntKind.wrap .i64 (Int.tdiv a0 a1))
 bif (a1 != 0) then
 let b3 : Bool := (decide ((Int.tmod a0 a1) < (0 : Int)))
 bif b3 then
 let x4 : Int := (IntKind.wrap .i64 (x2 - (1 : Int)))
 k (V.int .i64 x4)
 else
 k (V.int .i64 x2)
 else none
 else none
abbrev av_R01_FloorDiv (a0 a1 : Int) : List V := [(V.int .i64 a0), (V.int .i64 a1)]
theorem spec_R01_FloorDiv_eq {R : Type} (a0 a1 : Int) (k : V → Option R) : fnK env_R01_FloorDiv Tryz.f71 (av_R01_FloorDiv a0 a1) k = spec_R01_FloorDiv a0 a1 k := by kernel_rfl
theorem ok_R01_FloorDiv (a0 a1 : Int) {v : V} (h : Real (av_R01_FloorDiv a0 a1) → spec_R01_FloorDiv a0 a1 some = some v) : FunOK Tryz.prog 71 (av_R01_FloorDiv a0 a1) v :=
  fn_ok (fn := Tryz.f71) (c := bodyOf Tryz.f71) (E := env_R01_FloorDiv) ⟨by kernel_rfl, goodNil, rfl, goodS_no⟩ rfl (by kernel_rfl) (by kernel_rfl) (by kernel_rfl)
  (loopsOK_of _ (by
    have e : loopsOf (bodyOf Tryz.f71) = [] := by kernel_rfl
    rw [e]
    intro p hp; cases hp))
  (fun hr => (spec_R01_FloorDiv_eq a0 a1 some).trans (h hr))
theorem mk_R01_FloorDiv (h : ∀ (a0 a1 : Int), Real (av_R01_FloorDiv a0 a1) → spec_R01_FloorDiv a0 a1 some = some (V.int .i64 (m_R01_FloorDiv a0 a1))) : G_R01_FloorDiv := goodHook1 fun l hp => by
  unfold hp_R01_FloorDiv at hp
  split at hp
  · rename_i x0 x1
    exact ok_R01_FloorDiv x0 x1 fun hr => h x0 x1 hr
  · cases hp
theorem au_R01_FloorDiv (a0 a1 : Int) : pre_R01_FloorDiv a0 a1 = true → spec_R01_FloorDiv a0 a1 some = some ((fun (m : Int) => (V.int .i64 m)) (m_R01_FloorDiv a0 a1)) := by
  repeat' (first | exact fun _ => rfl | exact fun h => absurd h (by decide) | refine bif_p (v := (fun (m : Int) => (V.int .i64 m))) ?_ ?_)
theorem good_R01_FloorDiv_of : G_R01_FloorDiv := mk_R01_FloorDiv (fun _ _ _ => au_R01_FloorDiv _ _ (pt_R01_FloorDiv _ _))
noncomputable def env_R23_tiles {R : Type} : Env R := ⟨Tryz.prog, callCons 50 c_R01_CeilDiv (callCons 71 c_R01_FloorDiv callNil), fun _ _ _ _ _ => none, Tryz.f48.results.toList, maskTab 33 [(0, 0x2), (1, 0xa), (2, 0x1a), (3, 0x30), (4, 0x4)], maskAt [(2, 2), (4, 6), (6, 18), (8, 30)], noSort⟩
noncomputable def spec_R23_tiles {R : Type} (a0 : SHeader) (k : V → Option R) : Option R :=
 let c1 : Int := (m_R01_CeilDiv a0.Area.X1 a0.TileW)
 let c2 : Int := (m_R01_FloorDiv a0.Area.X0 a0.TileW)
 let x3 : Int := (IntKind.wrap .i64 (c1 - c2))
 let c4 : Int := (m_R01_CeilDiv a0.Area.Y1 a0.TileH)
 let c5 : Int := (m_R01_FloorDiv a0.Area.Y0 a0.TileH)
 let x6 : Int := (IntKind.wrap .i64 (c4 - c5))
 let x7 : Int := (IntKind.wrap .i64 (x3 * x6))
 k (V.int .i64 x7)
abbrev av_R23_tiles (a0 : SHeader) : List V := [(SHeader.v a0)]
theorem spec_R23_tiles_eq {R : Type} (a0 : SHeader) (k : V → Option R) : fnK env_R23_tiles Tryz.f48 (av_R23_tiles a0) k = spec_R23_tiles a0 k := by kernel_rfl
theorem ok_R23_tiles (h_R01_CeilDiv : G_R01_CeilDiv) (h_R01_FloorDiv : G_R01_FloorDiv) (a0 : SHeader) {v : V} (h : Real (av_R23_tiles a0) → spec_R23_tiles a0 some = some v) : FunOK Tryz.prog 48 (av_R23_tiles a0) v :=
  fn_ok (fn := Tryz.f48) (c := bodyOf Tryz.f48) (E := env_R23_tiles) ⟨by kernel_rfl, (goodCons h_R01_CeilDiv (goodCons h_R01_FloorDiv goodNil)), rfl, goodS_no⟩ rfl (by kernel_rfl) (by kernel_rfl) (by kernel_rfl)
  (loopsOK_of _ (by
    have e : loopsOf (bodyOf Tryz.f48) = [] := by kernel_rfl
    rw [e]
    intro p hp; cases hp))
  (fun hr => (spec_R23_tiles_eq a0 some).trans (h hr))
theorem mk_R23_tiles (h_R01_CeilDiv : G_R01_CeilDiv) (h_R01_FloorDiv : G_R01_FloorDiv) (h : ∀ (a0 : SHeader), Real (av_R23_tiles a0) → spec_R23_tiles a0 some = some (V.int .i64 (m_R23_tiles a0))) : G_R23_tiles := goodHook1 fun l hp => by
  unfold hp_R23_tiles at hp
  split at hp
  · rename_i x0 x1 x2 x3 x4 x5 x6
    exact ok_R23_tiles h_R01_CeilDiv h_R01_FloorDiv (SHeader.mk (SRect.mk x0 x1 x2 x3) x4 x5 x6) fun hr => h (SHeader.mk (SRect.mk x0 x1 x2 x3) x4 x5 x6) hr
  · cases hp
theorem au_R23_tiles (a0 : SHeader) : spec_R23_tiles a0 some = some ((fun (m : Int) => (V.int .i64 m)) (m_R23_tiles a0)) := by
  repeat' (first | rfl | refine bif_t (v := (fun (m : Int) => (V.int .i64 m))) ?_ ?_)
theorem good_R23_tiles_of (h_R01_CeilDiv : G_R01_CeilDiv) (h_R01_FloorDiv : G_R01_FloorDiv) : G_R23_tiles := mk_R23_tiles h_R01_CeilDiv h_R01_FloorDiv (fun _ _ => au_R23_tiles _)
noncomputable def env_R01_Area {R : Type} : Env R := ⟨Tryz.prog, callCons 28 c_R01_Valid callNil, fun _ _ _ _ _ => none, Tryz.f49.results.toList, maskTab 17 [(0, 0x2), (1, 0x22), (2, 0x4), (3, 0x4)], maskAt [(2, 2), (4, 5), (6, 6)], noSort⟩
noncomputable def spec_R01_Area {R : Type} (a0 : SRect) (k : V → Option R) : Option R :=
 let c1 : Bool := (m_R01_Valid a0)
 bif (!c1) then
 k (V.int .i64 (0 : Int))
 else
 let x2 : Int := (IntKind.wrap .i64 (a0.X1 - a0.X0))
 let x3 : Int := (IntKind.wrap .i64 (a0.Y1 - a0.Y0))
 let x4 : Int := (IntKind.wrap .i64 (x2 * x3))
 k (V.int .i64 x4)
abbrev av_R01_Area (a0 : SRect) : List V := [(SRect.v a0)]
theorem spec_R01_Area_eq {R : Type} (a0 : SRect) (k : V → Option R) : fnK env_R01_Area Tryz.f49 (av_R01_Area a0) k = spec_R01_Area a0 k := by kernel_rfl
theorem ok_R01_Area (h_R01_Valid : G_R01_Valid) (a0 : SRect) {v : V} (h : Real (av_R01_Area a0) → spec_R01_Area a0 some = some v) : FunOK Tryz.prog 49 (av_R01_Area a0) v :=
  fn_ok (fn := Tryz.f49) (c := bodyOf Tryz.f49) (E := env_R01_Area) ⟨by kernel_rfl, (goodCons h_R01_Valid goodNil), rfl, goodS_no⟩ rfl (by kernel_rfl) (by kernel_rfl) (by kernel_rfl)
  (loopsOK_of _ (by
    have e : loopsOf (bodyOf Tryz.f49) = [] := by kernel_rfl
    rw [e]
    intro p hp; cases hp))
  (fun hr => (spec_R01_Area_eq a0 some).trans (h hr))
theorem mk_R01_Area (h_R01_Valid : G_R01_Valid) (h : ∀ (a0 : SRect), Real (av_R01_Area a0) → spec_R01_Area a0 some = some (V.int .i64 (m_R01_Area a0))) : G_R01_Area := goodHook1 fun l hp => by
  unfold hp_R01_Area at hp
  split at hp
  · rename_i x0 x1 x2 x3
    exact ok_R01_Area h_R01_Valid (SRect.mk x0 x1 x2 x3) fun hr => h (SRect.mk x0 x1 x2 x3) hr
  · cases hp
theorem au_R01_Area (a0 : SRect) : spec_R01_Area a0 some = some ((fun (m : Int) => (V.int .i64 m)) (m_R01_Area a0)) := by
  repeat' (first | rfl | refine bif_t (v := (fun (m : Int) => (V.int .i64 m))) ?_ ?_)
theorem good_R01_Area_of (h_R01_Valid : G_R01_Valid) : G_R01_Area := mk_R01_Area h_R01_Valid (fun _ _ => au_R01_Area _)
noncomputable def fuel_R23_Header_0 (i0_0 : Int) (a0 : SHeader) : Nat :=
 let x7 : Int := (((List.length a0.Components) : Nat) : Int)
 Int.toNat (x7 - i0_0) + 1
noncomputable def step_R23_Header_0 {R : Type} (a0 : SHeader) (i0_0 : Int) (again : Int → Option R) (kn : Int → Option R) (kr : V → Option R) : Option R :=
 let x7 : Int := (((List.length a0.Components) : Nat) : Int)
 bif (decide (i0_0 < x7)) then
 bif (inR i0_0 (List.length a0.Components)) then
 let w8 : List V := (List.getD a0.Components (Int.toNat i0_0) [])
 let s9 : SComponent := (SComponent.of w8)
 let c10 : Bool := (m_R23_in s9.Depth (1 : Int) (16 : Int))
 bif ((!c10) == false) then
 let c11 : Bool := (m_R23_in s9.DX (1 : Int) (4 : Int))
 bif ((!c11) == false) then
 let c12 : Bool := (m_R23_in s9.DY (1 : Int) (4 : Int))
 bif ((!c12) == false) then
 let c13 : SRect := (m_R01_Reduce a0.Area s9.DX s9.DY)
 let c14 : Bool := (m_R01_Empty c13)
 bif c14 then
 kr (V.int .i64 (12 : Int))
 else
 let x15 : Int := (IntKind.wrap .i64 (i0_0 + (1 : Int)))
 again x15
 else
 kr (V.int .i64 (12 : Int))
 else
 kr (V.int .i64 (12 : Int))
 else
 kr (V.int .i64 (12 : Int))
 else none
 else
 kn i0_0
noncomputable def loop_R23_Header_0 {R : Type} (a0 : SHeader) : Nat → Int → (Int → Option R) → (V → Option R) → Option R
  | 0, _, _, _ => none
  | n + 1, i0_0, kn, kr => step_R23_Header_0 a0 i0_0 (fun yi0_0 => loop_R23_Header_0 a0 n yi0_0 kn kr) kn kr
noncomputable def shape_R23_Header_0 : ST := ⟨.undef :: .ptr 0 0 0 :: .undef :: .int .i64 :: unds 93 [], [(0, .var SHeader.sh false SHeader.ts)], 32⟩
noncomputable def st_R23_Header_0 (a0 : SHeader) (i0_0 : Int) : St := shape_R23_Header_0.put [.i i0_0, .i a0.Area.X0, .i a0.Area.Y0, .i a0.Area.X1, .i a0.Area.Y1, .i a0.TileW, .i a0.TileH, .r a0.Components]
noncomputable def hook_R23_Header_0 {R : Type} : LoopG R := fun l kn _ kr => match l with
  | .i i0_0 :: .i a0_Area_X0 :: .i a0_Area_Y0 :: .i a0_Area_X1 :: .i a0_Area_Y1 :: .i a0_TileW :: .i a0_TileH :: .r a0_Components :: [] => loop_R23_Header_0 (SHeader.mk (SRect.mk a0_Area_X0 a0_Area_Y0 a0_Area_X1 a0_Area_Y1) a0_TileW a0_TileH a0_Components) (fuel_R23_Header_0 i0_0 (SHeader.mk (SRect.mk a0_Area_X0 a0_Area_Y0 a0_Area_X1 a0_Area_Y1) a0_TileW a0_TileH a0_Components)) i0_0 (fun yi0_0 => kn (st_R23_Header_0 (SHeader.mk (SRect.mk a0_Area_X0 a0_Area_Y0 a0_Area_X1 a0_Area_Y1) a0_TileW a0_TileH a0_Components) yi0_0)) kr
  | _ => none
noncomputable def fuel_R23_Header_2 (i2_0 : Int) (a0 : SHeader) : Nat :=
 let x19 : Int := (((List.length a0.Components) : Nat) : Int)
 Int.toNat (x19 - i2_0) + 1
noncomputable def step_R23_Header_2 {R : Type} (a0 : SHeader) (i2_0 : Int) (again : Int → Option R) (kn : Int → Option R) (kr : V → Option R) : Option R :=
 let x19 : Int := (((List.length a0.Components) : Nat) : Int)
 bif (decide (i2_0 < x19)) then
 bif (inR i2_0 (List.length a0.Components)) then
 let w20 : List V := (List.getD a0.Components (Int.toNat i2_0) [])
 let s21 : SComponent := (SComponent.of w20)
 let c22 : SRect := (m_R01_Reduce a0.Area s21.DX s21.DY)
 let c23 : Int := (m_R01_Area c22)
 let b24 : Bool := (decide (c23 > (1048576 : Int)))
 bif b24 then
 kr (V.int .i64 (5 : Int))
 else
 let x25 : Int := (IntKind.wrap .i64 (i2_0 + (1 : Int)))
 again x25
 else none
 else
 kn i2_0
noncomputable def loop_R23_Header_2 {R : Type} (a0 : SHeader) : Nat → Int → (Int → Option R) → (V → Option R) → Option R
  | 0, _, _, _ => none
  | n + 1, i2_0, kn, kr => step_R23_Header_2 a0 i2_0 (fun yi2_0 => loop_R23_Header_2 a0 n yi2_0 kn kr) kn kr
noncomputable def shape_R23_Header_2 : ST := ⟨.undef :: .ptr 0 0 0 :: unds 3 (.int .i64 :: unds 91 []), [(0, .var SHeader.sh false SHeader.ts)], 83⟩
noncomputable def st_R23_Header_2 (a0 : SHeader) (i2_0 : Int) : St := shape_R23_Header_2.put [.i i2_0, .i a0.Area.X0, .i a0.Area.Y0, .i a0.Area.X1, .i a0.Area.Y1, .i a0.TileW, .i a0.TileH, .r a0.Components]
noncomputable def hook_R23_Header_2 {R : Type} : LoopG R := fun l kn _ kr => match l with
  | .i i2_0 :: .i a0_Area_X0 :: .i a0_Area_Y0 :: .i a0_Area_X1 :: .i a0_Area_Y1 :: .i a0_TileW :: .i a0_TileH :: .r a0_Components :: [] => loop_R23_Header_2 (SHeader.mk (SRect.mk a0_Area_X0 a0_Area_Y0 a0_Area_X1 a0_Area_Y1) a0_TileW a0_TileH a0_Components) (fuel_R23_Header_2 i2_0 (SHeader.mk (SRect.mk a0_Area_X0 a0_Area_Y0 a0_Area_X1 a0_Area_Y1) a0_TileW a0_TileH a0_Components)) i2_0 (fun yi2_0 => kn (st_R23_Header_2 (SHeader.mk (SRect.mk a0_Area_X0 a0_Area_Y0 a0_Area_X1 a0_Area_Y1) a0_TileW a0_TileH a0_Components) yi2_0)) kr
  | _ => none
noncomputable def env_R23_Header {R : Type} : Env R := ⟨Tryz.prog, callCons 20 c_R01_Reduce (callCons 28 c_R01_Valid (callCons 29 c_R01_Empty (callCons 47 c_R23_in (callCons 48 c_R23_tiles (callCons 49 c_R01_Area callNil))))), fun id => bif Nat.beq id 0 then loopAlt shape_R23_Header_0 hook_R23_Header_0 loopNil else (fun id => bif Nat.beq id 2 then loopAlt shape_R23_Header_2 hook_R23_Header_2 loopNil else (fun _ _ _ _ _ => none) id) id, Tryz.f17.results.toList, maskTab 97 [(0, 0xff3cf00003e79e7002), (1, 0xff3cf0000400000002), (2, 0x4), (3, 0xff3cf000000000000a), (4, 0xff3cf000800000000a), (5, 0xff3cf000000000000a), (6, 0xff3cf000000000001a), (7, 0x1ff3cf000000000000a), (8, 0x4), (9, 0x8000000000000000002), (10, 0x4), (11, 0x22), (12, 0x100000000000000000022), (13, 0x22), (14, 0x62), (15, 0x1000000000000000000000022), (16, 0x4), (17, 0x4)], maskAt [(1, 32), (2, 2), (4, 30), (5, 83), (6, 31), (8, 36), (10, 75), (12, 41), (14, 48), (16, 74), (18, 78), (20, 81), (22, 82), (24, 87), (26, 109), (28, 92), (30, 99), (32, 108), (34, 112)], noSort⟩
theorem step_R23_Header_0_eq {R : Type} (a0 : SHeader) (si0_0 : Int) (kn : St → Option R) (kx : Nat → St → Option R) (kr : V → Option R) (n : Nat) (i0_0 : Int) :
    loopN env_R23_Header 0 (loopAt Tryz.f17 0) (st_R23_Header_0 a0 si0_0) kn kx kr (n + 1) (st_R23_Header_0 a0 i0_0) =
    step_R23_Header_0 a0 i0_0 (fun yi0_0 => loopN env_R23_Header 0 (loopAt Tryz.f17 0) (st_R23_Header_0 a0 si0_0) kn kx kr n (st_R23_Header_0 a0 yi0_0)) (fun yi0_0 => kn (st_R23_Header_0 a0 yi0_0)) kr := by kernel_rfl
theorem loop_R23_Header_0_eq {R : Type} (a0 : SHeader) (si0_0 : Int) (kn : St → Option R) (kx : Nat → St → Option R) (kr : V → Option R) : ∀ (n : Nat) (i0_0 : Int),
    loop_R23_Header_0 a0 n i0_0 (fun yi0_0 => kn (st_R23_Header_0 a0 yi0_0)) kr = loopN env_R23_Header 0 (loopAt Tryz.f17 0) (st_R23_Header_0 a0 si0_0) kn kx kr n (st_R23_Header_0 a0 i0_0)
  | 0, _ => rfl
  | n + 1, i0_0 => by
    rw [step_R23_Header_0_eq, loop_R23_Header_0]
    congr 1
    funext yi0_0
    exact loop_R23_Header_0_eq a0 si0_0 kn kx kr n yi0_0
theorem goodl_R23_Header_0 {R : Type} {rest} (h : GoodL (R := R) env_R23_Header 0 (loopAt Tryz.f17 0) rest) : GoodL (R := R) env_R23_Header 0 (loopAt Tryz.f17 0) (loopAlt shape_R23_Header_0 hook_R23_Header_0 rest) := by
  refine goodL_alt (fun l kn kx kr r h => ?_) h
  unfold hook_R23_Header_0 at h
  split at h
  · rename_i i0_0 a0_Area_X0 a0_Area_Y0 a0_Area_X1 a0_Area_Y1 a0_TileW a0_TileH a0_Components
    exact ⟨_, (loop_R23_Header_0_eq (SHeader.mk (SRect.mk a0_Area_X0 a0_Area_Y0 a0_Area_X1 a0_Area_Y1) a0_TileW a0_TileH a0_Components) i0_0 kn kx kr _ i0_0).symm.trans h⟩
  · cases h
theorem step_R23_Header_2_eq {R : Type} (a0 : SHeader) (si2_0 : Int) (kn : St → Option R) (kx : Nat → St → Option R) (kr : V → Option R) (n : Nat) (i2_0 : Int) :
    loopN env_R23_Header 2 (loopAt Tryz.f17 1) (st_R23_Header_2 a0 si2_0) kn kx kr (n + 1) (st_R23_Header_2 a0 i2_0) =
    step_R23_Header_2 a0 i2_0 (fun yi2_0 => loopN env_R23_Header 2 (loopAt Tryz.f17 1) (st_R23_Header_2 a0 si2_0) kn kx kr n (st_R23_Header_2 a0 yi2_0)) (fun yi2_0 => kn (st_R23_Header_2 a0 yi2_0)) kr := by kernel_rfl
theorem loop_R23_Header_2_eq {R : Type} (a0 : SHeader) (si2_0 : Int) (kn : St → Option R) (kx : Nat → St → Option R) (kr : V → Option R) : ∀ (n : Nat) (i2_0 : Int),
    loop_R23_Header_2 a0 n i2_0 (fun yi2_0 => kn (st_R23_Header_2 a0 yi2_0)) kr = loopN env_R23_Header 2 (loopAt Tryz.f17 1) (st_R23_Header_2 a0 si2_0) kn kx kr n (st_R23_Header_2 a0 i2_0)
  | 0, _ => rfl
  | n + 1, i2_0 => by
    rw [step_R23_Header_2_eq, loop_R23_Header_2]
    congr 1
    funext yi2_0
    exact loop_R23_Header_2_eq a0 si2_0 kn kx kr n yi2_0
theorem goodl_R23_Header_2 {R : Type} {rest} (h : GoodL (R := R) env_R23_Header 2 (loopAt Tryz.f17 1) rest) : GoodL (R := R) env_R23_Header 2 (loopAt Tryz.f17 1) (loopAlt shape_R23_Header_2 hook_R23_Header_2 rest) := by
  refine goodL_alt (fun l kn kx kr r h => ?_) h
  unfold hook_R23_Header_2 at h
  split at h
  · rename_i i2_0 a0_Area_X0 a0_Area_Y0 a0_Area_X1 a0_Area_Y1 a0_TileW a0_TileH a0_Components
    exact ⟨_, (loop_R23_Header_2_eq (SHeader.mk (SRect.mk a0_Area_X0 a0_Area_Y0 a0_Area_X1 a0_Area_Y1) a0_TileW a0_TileH a0_Components) i2_0 kn kx kr _ i2_0).symm.trans h⟩
  · cases h
theorem good_R23_Header_0 {R : Type} : GoodLoop (R := R) env_R23_Header 0 (loopAt Tryz.f17 0) := goodL_loop (g := loopAlt shape_R23_Header_0 hook_R23_Header_0 loopNil) (fun _ _ _ _ => rfl) (goodl_R23_Header_0 goodL_nil)
theorem good_R23_Header_2 {R : Type} : GoodLoop (R := R) env_R23_Header 2 (loopAt Tryz.f17 1) := goodL_loop (g := loopAlt shape_R23_Header_2 hook_R23_Header_2 loopNil) (fun _ _ _ _ => rfl) (goodl_R23_Header_2 goodL_nil)
noncomputable def spec_R23_Header {R : Type} (a0 : SHeader) (k : V → Option R) : Option R :=
 let c1 : Bool := (m_R01_Valid a0.Area)
 bif ((!c1) == false) then
 let c2 : Bool := (m_R01_Empty a0.Area)
 bif (c2 == false) then
 let c3 : Bool := (m_R23_in a0.TileW (1 : Int) (4096 : Int))
 bif ((!c3) == false) then
 let c4 : Bool := (m_R23_in a0.TileH (1 : Int) (4096 : Int))
 bif ((!c4) == false) then
 let x5 : Int := (((List.length a0.Components) : Nat) : Int)
 let c6 : Bool := (m_R23_in x5 (1 : Int) (4 : Int))
 bif (!c6) then
 k (V.int .i64 (12 : Int))
 else
 loop_R23_Header_0 a0 (fuel_R23_Header_0 (0 : Int) a0) (0 : Int) (fun i0_z16 =>
 let c17 : Int := (m_R23_tiles a0)
 let b18 : Bool := (decide (c17 > (1024 : Int)))
 bif b18 then
 k (V.int .i64 (5 : Int))
 else
 loop_R23_Header_2 a0 (fuel_R23_Header_2 (0 : Int) a0) (0 : Int) (fun i2_z26 =>
 k (V.int .i64 (0 : Int))) k) k
 else
 k (V.int .i64 (12 : Int))
 else
 k (V.int .i64 (12 : Int))
 else
 k (V.int .i64 (12 : Int))
 else
 k (V.int .i64 (12 : Int))
abbrev av_R23_Header (a0 : SHeader) : List V := [(SHeader.v a0)]
theorem spec_R23_Header_eq {R : Type} (a0 : SHeader) (k : V → Option R) : fnK env_R23_Header Tryz.f17 (av_R23_Header a0) k = spec_R23_Header a0 k := by kernel_rfl
theorem ok_R23_Header (h_R01_Reduce : G_R01_Reduce) (h_R01_Valid : G_R01_Valid) (h_R01_Empty : G_R01_Empty) (h_R23_in : G_R23_in) (h_R23_tiles : G_R23_tiles) (h_R01_Area : G_R01_Area) (a0 : SHeader) {v : V} (h : Real (av_R23_Header a0) → spec_R23_Header a0 some = some v) : FunOK Tryz.prog 17 (av_R23_Header a0) v :=
  fn_ok (fn := Tryz.f17) (c := bodyOf Tryz.f17) (E := env_R23_Header) ⟨by kernel_rfl, (goodCons h_R01_Reduce (goodCons h_R01_Valid (goodCons h_R01_Empty (goodCons h_R23_in (goodCons h_R23_tiles (goodCons h_R01_Area goodNil)))))), rfl, goodS_no⟩ rfl (by kernel_rfl) (by kernel_rfl) (by kernel_rfl)
  (loopsOK_of _ (by
    have e : loopsOf (bodyOf Tryz.f17) = [(0, loopAt Tryz.f17 0), (2, loopAt Tryz.f17 1)] := by kernel_rfl
    rw [e]
    simp only [List.forall_mem_cons, List.not_mem_nil, false_implies, implies_true, and_true]
    exact ⟨good_R23_Header_0, good_R23_Header_2⟩))
  (fun hr => (spec_R23_Header_eq a0 some).trans (h hr))
theorem mk_R23_Header (h_R01_Reduce : G_R01_Reduce) (h_R01_Valid : G_R01_Valid) (h_R01_Empty : G_R01_Empty) (h_R23_in : G_R23_in) (h_R23_tiles : G_R23_tiles) (h_R01_Area : G_R01_Area) (h : ∀ (a0 : SHeader), Real (av_R23_Header a0) → spec_R23_Header a0 some = some (V.int .i64 (m_R23_Header a0))) : G_R23_Header := goodHook1 fun l hp => by
  unfold hp_R23_Header at hp
  split at hp
  · rename_i x0 x1 x2 x3 x4 x5 x6
    exact ok_R23_Header h_R01_Reduce h_R01_Valid h_R01_Empty h_R23_in h_R23_tiles h_R01_Area (SHeader.mk (SRect.mk x0 x1 x2 x3) x4 x5 x6) fun hr => h (SHeader.mk (SRect.mk x0 x1 x2 x3) x4 x5 x6) hr
  · cases hp
noncomputable def env_R01_Intersect {R : Type} : Env R := ⟨Tryz.prog, callCons 29 c_R01_Empty callNil, fun _ _ _ _ _ => none, Tryz.f30.results.toList, maskTab 31 [(0, 0x1c), (1, 0x30), (2, 0x10000030), (3, 0x10), (4, 0x10)], maskAt [(2, 3), (4, 26), (6, 28), (8, 30)], noSort⟩
noncomputable def spec_R01_Intersect {R : Type} (a0 a1 : SRect) (k : V → Option R) : Option R :=
 let x1 : Int := (bif (decide (a1.X0 > a0.X0)) then a1.X0 else a0.X0)
 let x2 : Int := (bif (decide (a1.Y0 > a0.Y0)) then a1.Y0 else a0.Y0)
 let x3 : Int := (bif (decide (a1.X1 < a0.X1)) then a1.X1 else a0.X1)
 let x4 : Int := (bif (decide (a1.Y1 < a0.Y1)) then a1.Y1 else a0.Y1)
 let c5 : Bool := (m_R01_Empty (SRect.mk x1 x2 x3 x4))
 bif c5 then
 k (V.agg [(V.int .i64 (0 : Int)), (V.int .i64 (0 : Int)), (V.int .i64 (0 : Int)), (V.int .i64 (0 : Int))])
 else
 k (V.agg [(V.int .i64 x1), (V.int .i64 x2), (V.int .i64 x3), (V.int .i64 x4)])
abbrev av_R01_Intersect (a0 a1 : SRect) : List V := [(SRect.v a0), (SRect.v a1)]
theorem spec_R01_Intersect_eq {R : Type} (a0 a1 : SRect) (k : V → Option R) : fnK env_R01_Intersect Tryz.f30 (av_R01_Intersect a0 a1) k = spec_R01_Intersect a0 a1 k := by kernel_rfl
theorem ok_R01_Intersect (h_R01_Empty : G_R01_Empty) (a0 a1 : SRect) {v : V} (h : Real (av_R01_Intersect a0 a1) → spec_R01_Intersect a0 a1 some = some v) : FunOK Tryz.prog 30 (av_R01_Intersect a0 a1) v :=
  fn_ok (fn := Tryz.f30) (c := bodyOf Tryz.f30) (E := env_R01_Intersect) ⟨by kernel_rfl, (goodCons h_R01_Empty goodNil), rfl, goodS_no⟩ rfl (by kernel_rfl) (by kernel_rfl) (by kernel_rfl)
  (loopsOK_of _ (by
    have e : loopsOf (bodyOf Tryz.f30) = [] := by kernel_rfl
    rw [e]
    intro p hp; cases hp))
  (fun hr => (spec_R01_Intersect_eq a0 a1 some).trans (h hr))
theorem mk_R01_Intersect (h_R01_Empty : G_R01_Empty) (h : ∀ (a0 a1 : SRect), Real (av_R01_Intersect a0 a1) → spec_R01_Intersect a0 a1 some = some (SRect.v (m_R01_Intersect a0 a1))) : G_R01_Intersect := goodHook1 fun l hp => by
  unfold hp_R01_Intersect at hp
  split at hp
  · rename_i x0 x1 x2 x3 x4 x5 x6 x7
    exact ok_R01_Intersect h_R01_Empty (SRect.mk x0 x1 x2 x3) (SRect.mk x4 x5 x6 x7) fun hr => h (SRect.mk x0 x1 x2 x3) (SRect.mk x4 x5 x6 x7) hr
  · cases hp
theorem au_R01_Intersect (a0 a1 : SRect) : spec_R01_Intersect a0 a1 some = some ((fun (m : SRect) => (SRect.v m)) (m_R01_Intersect a0 a1)) := by
  repeat' (first | rfl | refine bif_t (v := (fun (m : SRect) => (SRect.v m))) ?_ ?_)
theorem good_R01_Intersect_of (h_R01_Empty : G_R01_Empty) : G_R01_Intersect := mk_R01_Intersect h_R01_Empty (fun _ _ _ => au_R01_Intersect _ _)
noncomputable def fuel_R01_Cells_2 (i2_0 i2_1 i2_2 i2_3 i2_4 i2_5 i2_6 : Int) (a0 : SRect) (r2_11 : Rows) : Nat :=
 Int.toNat (i2_3 - i2_6) + 1
noncomputable def step_R01_Cells_2 {R : Type} (i2_0 i2_1 i2_2 i2_3 i2_4 i2_5 : Int) (a0 : SRect) (i2_6 : Int) (r2_11 : Rows) (again : Int → Rows → Option R) (kn : Int → Rows → Option R) : Option R :=
 bif (decide (i2_6 < i2_3)) then
 let x15 : Int := (IntKind.wrap .i64 (i2_6 * i2_0))
 let x16 : Int := (IntKind.wrap .i64 (i2_5 * i2_1))
 let x17 : Int := (IntKind.wrap .i64 (i2_6 * i2_0))
 let x18 : Int := (IntKind.wrap .i64 (x17 + i2_0))
 let x19 : Int := (IntKind.wrap .i64 (i2_5 * i2_1))
 let x20 : Int := (IntKind.wrap .i64 (x19 + i2_1))
 let c21 : SRect := (m_R01_Intersect a0 (SRect.mk x15 x16 x18 x20))
 bif (roomOK ((List.length r2_11) + (1 : Nat)) 32) then
 let r22 : Rows := (r2_11 ++ [(SRect.row c21)])
 let x23 : Int := (IntKind.wrap .i64 (i2_6 + (1 : Int)))
 again x23 r22
 else none
 else
 kn i2_6 r2_11
noncomputable def loop_R01_Cells_2 {R : Type} (i2_0 i2_1 i2_2 i2_3 i2_4 i2_5 : Int) (a0 : SRect) : Nat → Int → Rows → (Int → Rows → Option R) → Option R
  | 0, _, _, _ => none
  | n + 1, i2_6, r2_11, kn => step_R01_Cells_2 i2_0 i2_1 i2_2 i2_3 i2_4 i2_5 a0 i2_6 r2_11 (fun yi2_6 yr2_11 => loop_R01_Cells_2 i2_0 i2_1 i2_2 i2_3 i2_4 i2_5 a0 n yi2_6 yr2_11 kn) kn
noncomputable def shape_R01_Cells_2 : ST := ⟨.undef :: .int .i64 :: .int .i64 :: .ptr 0 0 0 :: unds 3 (.int .i64 :: .int .i64 :: .undef :: .int .i64 :: .vs 50 :: .int .i64 :: .int .i64 :: unds 74 []), [(0, .var SRect.sh false SRect.ts), (50, .vec SRect.sh false)], 59⟩
noncomputable def st_R01_Cells_2 (i2_0 i2_1 i2_2 i2_3 i2_4 i2_5 : Int) (a0 : SRect) (i2_6 : Int) (r2_11 : Rows) : St := shape_R01_Cells_2.put [.i i2_0, .i i2_1, .i i2_2, .i i2_3, .i i2_4, .i i2_5, .i i2_6, .i a0.X0, .i a0.Y0, .i a0.X1, .i a0.Y1, .r r2_11]
noncomputable def hook_R01_Cells_2 {R : Type} : LoopG R := fun l kn _ _ => match l with
  | .i i2_0 :: .i i2_1 :: .i i2_2 :: .i i2_3 :: .i i2_4 :: .i i2_5 :: .i i2_6 :: .i a0_X0 :: .i a0_Y0 :: .i a0_X1 :: .i a0_Y1 :: .r r2_11 :: [] => loop_R01_Cells_2 i2_0 i2_1 i2_2 i2_3 i2_4 i2_5 (SRect.mk a0_X0 a0_Y0 a0_X1 a0_Y1) (fuel_R01_Cells_2 i2_0 i2_1 i2_2 i2_3 i2_4 i2_5 i2_6 (SRect.mk a0_X0 a0_Y0 a0_X1 a0_Y1) r2_11) i2_6 r2_11 (fun yi2_6 yr2_11 => kn (st_R01_Cells_2 i2_0 i2_1 i2_2 i2_3 i2_4 i2_5 (SRect.mk a0_X0 a0_Y0 a0_X1 a0_Y1) yi2_6 yr2_11))
  | _ => none
noncomputable def fuel_R01_Cells_0 (i0_0 i0_1 i0_2 i0_3 i0_4 i0_5 : Int) (a0 : SRect) (r0_10 : Rows) : Nat :=
 Int.toNat (i0_4 - i0_5) + 1
noncomputable def step_R01_Cells_0 {R : Type} (i0_0 i0_1 i0_2 i0_3 i0_4 : Int) (a0 : SRect) (i0_5 : Int) (r0_10 : Rows) (again : Int → Rows → Option R) (kn : Int → Rows → Option R) : Option R :=
 bif (decide (i0_5 < i0_4)) then
 loop_R01_Cells_2 i0_0 i0_1 i0_2 i0_3 i0_4 i0_5 a0 (fuel_R01_Cells_2 i0_0 i0_1 i0_2 i0_3 i0_4 i0_5 i0_2 a0 r0_10) i0_2 r0_10 (fun i2_z15 r2_z16 =>
 let x17 : Int := (IntKind.wrap .i64 (i0_5 + (1 : Int)))
 again x17 r2_z16)
 else
 kn i0_5 r0_10
noncomputable def loop_R01_Cells_0 {R : Type} (i0_0 i0_1 i0_2 i0_3 i0_4 : Int) (a0 : SRect) : Nat → Int → Rows → (Int → Rows → Option R) → Option R
  | 0, _, _, _ => none
  | n + 1, i0_5, r0_10, kn => step_R01_Cells_0 i0_0 i0_1 i0_2 i0_3 i0_4 a0 i0_5 r0_10 (fun yi0_5 yr0_10 => loop_R01_Cells_0 i0_0 i0_1 i0_2 i0_3 i0_4 a0 n yi0_5 yr0_10 kn) kn
noncomputable def shape_R01_Cells_0 : ST := ⟨.undef :: .int .i64 :: .int .i64 :: .ptr 0 0 0 :: unds 3 (.int .i64 :: .int .i64 :: .undef :: .int .i64 :: .vs 50 :: .int .i64 :: unds 75 []), [(0, .var SRect.sh false SRect.ts), (50, .vec SRect.sh false)], 51⟩
noncomputable def st_R01_Cells_0 (i0_0 i0_1 i0_2 i0_3 i0_4 : Int) (a0 : SRect) (i0_5 : Int) (r0_10 : Rows) : St := shape_R01_Cells_0.put [.i i0_0, .i i0_1, .i i0_2, .i i0_3, .i i0_4, .i i0_5, .i a0.X0, .i a0.Y0, .i a0.X1, .i a0.Y1, .r r0_10]
noncomputable def hook_R01_Cells_0 {R : Type} : LoopG R := fun l kn _ _ => match l with
  | .i i0_0 :: .i i0_1 :: .i i0_2 :: .i i0_3 :: .i i0_4 :: .i i0_5 :: .i a0_X0 :: .i a0_Y0 :: .i a0_X1 :: .i a0_Y1 :: .r r0_10 :: [] => loop_R01_Cells_0 i0_0 i0_1 i0_2 i0_3 i0_4 (SRect.mk a0_X0 a0_Y0 a0_X1 a0_Y1) (fuel_R01_Cells_0 i0_0 i0_1 i0_2 i0_3 i0_4 i0_5 (SRect.mk a0_X0 a0_Y0 a0_X1 a0_Y1) r0_10) i0_5 r0_10 (fun yi0_5 yr0_10 => kn (st_R01_Cells_0 i0_0 i0_1 i0_2 i0_3 i0_4 (SRect.mk a0_X0 a0_Y0 a0_X1 a0_Y1) yi0_5 yr0_10))
  | _ => none
noncomputable def env_R01_Cells {R : Type} : Env R := ⟨Tryz.prog, callCons 28 c_R01_Valid (callCons 29 c_R01_Empty (callCons 30 c_R01_Intersect (callCons 50 c_R01_CeilDiv (callCons 71 c_R01_FloorDiv callNil)))), fun id => bif Nat.beq id 2 then loopAlt shape_R01_Cells_2 hook_R01_Cells_2 loopNil else (fun id => bif Nat.beq id 0 then loopAlt shape_R01_Cells_0 hook_R01_Cells_0 loopNil else (fun _ _ _ _ _ => none) id) id, Tryz.f57.results.toList, maskTab 88 [(0, 0xccc000e), (1, 0x1000000e), (2, 0x40), (3, 0x8e), (4, 0x18e), (5, 0x38e), (6, 0x78e), (7, 0x1000000000078e), (8, 0x40), (9, 0xf8e), (10, 0x1d8e), (11, 0x100000000001d8e), (12, 0x1d8e), (13, 0x3d8e), (14, 0x4000000000003d8e), (15, 0x3d8e), (16, 0x3d8e), (17, 0x40)], maskAt [(1, 50), (2, 2), (4, 17), (5, 59), (6, 18), (8, 23), (10, 28), (12, 33), (14, 38), (16, 46), (18, 47), (20, 48), (22, 54), (24, 92), (26, 57), (28, 63), (30, 89), (32, 66), (34, 95)], noSort⟩
theorem step_R01_Cells_2_eq {R : Type} (i2_0 i2_1 i2_2 i2_3 i2_4 i2_5 : Int) (a0 : SRect) (si2_6 : Int) (sr2_11 : Rows) (kn : St → Option R) (kx : Nat → St → Option R) (kr : V → Option R) (n : Nat) (i2_6 : Int) (r2_11 : Rows) :
    loopN env_R01_Cells 2 (loopAt Tryz.f57 1) (st_R01_Cells_2 i2_0 i2_1 i2_2 i2_3 i2_4 i2_5 a0 si2_6 sr2_11) kn kx kr (n + 1) (st_R01_Cells_2 i2_0 i2_1 i2_2 i2_3 i2_4 i2_5 a0 i2_6 r2_11) =
    step_R01_Cells_2 i2_0 i2_1 i2_2 i2_3 i2_4 i2_5 a0 i2_6 r2_11 (fun yi2_6 yr2_11 => loopN env_R01_Cells 2 (loopAt Tryz.f57 1) (st_R01_Cells_2 i2_0 i2_1 i2_2 i2_3 i2_4 i2_5 a0 si2_6 sr2_11) kn kx kr n (st_R01_Cells_2 i2_0 i2_1 i2_2 i2_3 i2_4 i2_5 a0 yi2_6 yr2_11)) (fun yi2_6 yr2_11 => kn (st_R01_Cells_2 i2_0 i2_1 i2_2 i2_3 i2_4 i2_5 a0 yi2_6 yr2_11)) := by kernel_rfl
theorem loop_R01_Cells_2_eq {R : Type} (i2_0 i2_1 i2_2 i2_3 i2_4 i2_5 : Int) (a0 : SRect) (si2_6 : Int) (sr2_11 : Rows) (kn : St → Option R) (kx : Nat → St → Option R) (kr : V → Option R) : ∀ (n : Nat) (i2_6 : Int) (r2_11 : Rows),
    loop_R01_Cells_2 i2_0 i2_1 i2_2 i2_3 i2_4 i2_5 a0 n i2_6 r2_11 (fun yi2_6 yr2_11 => kn (st_R01_Cells_2 i2_0 i2_1 i2_2 i2_3 i2_4 i2_5 a0 yi2_6 yr2_11)) = loopN env_R01_Cells 2 (loopAt Tryz.f57 1) (st_R01_Cells_2 i2_0 i2_1 i2_2 i2_3 i2_4 i2_5 a0 si2_6 sr2_11) kn kx kr n (st_R01_Cells_2 i2_0 i2_1 i2_2 i2_3 i2_4 i2_5 a0 i2_6 r2_11)
  | 0, _, _ => rfl
  | n + 1, i2_6, r2_11 => by
    rw [step_R01_Cells_2_eq, loop_R01_Cells_2]
    congr 1
    funext yi2_6 yr2_11
    exact loop_R01_Cells_2_eq i2_0 i2_1 i2_2 i2_3 i2_4 i2_5 a0 si2_6 sr2_11 kn kx kr n yi2_6 yr2_11
theorem goodl_R01_Cells_2 {R : Type} {rest} (h : GoodL (R := R) env_R01_Cells 2 (loopAt Tryz.f57 1) rest) : GoodL (R := R) env_R01_Cells 2 (loopAt Tryz.f57 1) (loopAlt shape_R01_Cells_2 hook_R01_Cells_2 rest) := by
  refine goodL_alt (fun l kn kx kr r h => ?_) h
  unfold hook_R01_Cells_2 at h
  split at h
  · rename_i i2_0 i2_1 i2_2 i2_3 i2_4 i2_5 i2_6 a0_X0 a0_Y0 a0_X1 a0_Y1 r2_11
    exact ⟨_, (loop_R01_Cells_2_eq i2_0 i2_1 i2_2 i2_3 i2_4 i2_5 (SRect.mk a0_X0 a0_Y0 a0_X1 a0_Y1) i2_6 r2_11 kn kx kr _ i2_6 r2_11).symm.trans h⟩
  · cases h
theorem step_R01_Cells_0_eq {R : Type} (i0_0 i0_1 i0_2 i0_3 i0_4 : Int) (a0 : SRect) (si0_5 : Int) (sr0_10 : Rows) (kn : St → Option R) (kx : Nat → St → Option R) (kr : V → Option R) (n : Nat) (i0_5 : Int) (r0_10 : Rows) :
    loopN env_R01_Cells 0 (loopAt Tryz.f57 0) (st_R01_Cells_0 i0_0 i0_1 i0_2 i0_3 i0_4 a0 si0_5 sr0_10) kn kx kr (n + 1) (st_R01_Cells_0 i0_0 i0_1 i0_2 i0_3 i0_4 a0 i0_5 r0_10) =
    step_R01_Cells_0 i0_0 i0_1 i0_2 i0_3 i0_4 a0 i0_5 r0_10 (fun yi0_5 yr0_10 => loopN env_R01_Cells 0 (loopAt Tryz.f57 0) (st_R01_Cells_0 i0_0 i0_1 i0_2 i0_3 i0_4 a0 si0_5 sr0_10) kn kx kr n (st_R01_Cells_0 i0_0 i0_1 i0_2 i0_3 i0_4 a0 yi0_5 yr0_10)) (fun yi0_5 yr0_10 => kn (st_R01_Cells_0 i0_0 i0_1 i0_2 i0_3 i0_4 a0 yi0_5 yr0_10)) := by kernel_rfl
theorem loop_R01_Cells_0_eq {R : Type} (i0_0 i0_1 i0_2 i0_3 i0_4 : Int) (a0 : SRect) (si0_5 : Int) (sr0_10 : Rows) (kn : St → Option R) (kx : Nat → St → Option R) (kr : V → Option R) : ∀ (n : Nat) (i0_5 : Int) (r0_10 : Rows),
    loop_R01_Cells_0 i0_0 i0_1 i0_2 i0_3 i0_4 a0 n i0_5 r0_10 (fun yi0_5 yr0_10 => kn (st_R01_Cells_0 i0_0 i0_1 i0_2 i0_3 i0_4 a0 yi0_5 yr0_10)) = loopN env_R01_Cells 0 (loopAt Tryz.f57 0) (st_R01_Cells_0 i0_0 i0_1 i0_2 i0_3 i0_4 a0 si0_5 sr0_10) kn kx kr n (st_R01_Cells_0 i0_0 i0_1 i0_2 i0_3 i0_4 a0 i0_5 r0_10)
  | 0, _, _ => rfl
  | n + 1, i0_5, r0_10 => by
    rw [step_R01_Cells_0_eq, loop_R01_Cells_0]
    congr 1
    funext yi0_5 yr0_10
    exact loop_R01_Cells_0_eq i0_0 i0_1 i0_2 i0_3 i0_4 a0 si0_5 sr0_10 kn kx kr n yi0_5 yr0_10
theorem goodl_R01_Cells_0 {R : Type} {rest} (h : GoodL (R := R) env_R01_Cells 0 (loopAt Tryz.f57 0) rest) : GoodL (R := R) env_R01_Cells 0 (loopAt Tryz.f57 0) (loopAlt shape_R01_Cells_0 hook_R01_Cells_0 rest) := by
  refine goodL_alt (fun l kn kx kr r h => ?_) h
  unfold hook_R01_Cells_0 at h
  split at h
  · rename_i i0_0 i0_1 i0_2 i0_3 i0_4 i0_5 a0_X0 a0_Y0 a0_X1 a0_Y1 r0_10
    exact ⟨_, (loop_R01_Cells_0_eq i0_0 i0_1 i0_2 i0_3 i0_4 (SRect.mk a0_X0 a0_Y0 a0_X1 a0_Y1) i0_5 r0_10 kn kx kr _ i0_5 r0_10).symm.trans h⟩
  · cases h
theorem good_R01_Cells_0 {R : Type} : GoodLoop (R := R) env_R01_Cells 0 (loopAt Tryz.f57 0) := goodL_loop (g := loopAlt shape_R01_Cells_0 hook_R01_Cells_0 loopNil) (fun _ _ _ _ => rfl) (goodl_R01_Cells_0 goodL_nil)
theorem good_R01_Cells_2 {R : Type} : GoodLoop (R := R) env_R01_Cells 2 (loopAt Tryz.f57 1) := goodL_loop (g := loopAlt shape_R01_Cells_2 hook_R01_Cells_2 loopNil) (fun _ _ _ _ => rfl) (goodl_R01_Cells_2 goodL_nil)
noncomputable def spec_R01_Cells {R : Type} (a0 : SRect) (a1 a2 : Int) (k : V → Option R) : Option R :=
 let c1 : Bool := (m_R01_Valid a0)
 bif ((!c1) == false) then
 let c2 : Bool := (m_R01_Empty a0)
 let b3 : Bool := (decide (a1 < (1 : Int)))
 let b4 : Bool := (bif c2 then true else b3)
 let b5 : Bool := (decide (a2 < (1 : Int)))
 let b6 : Bool := (bif b4 then true else b5)
 bif b6 then
 k (V.data SRect.sh [])
 else
 let c7 : Int := (m_R01_FloorDiv a0.X0 a1)
 let c8 : Int := (m_R01_CeilDiv a0.X1 a1)
 let c9 : Int := (m_R01_FloorDiv a0.Y0 a2)
 let c10 : Int := (m_R01_CeilDiv a0.Y1 a2)
 let x11 : Int := (IntKind.wrap .i64 (c8 - c7))
 let x12 : Int := (IntKind.wrap .i64 (c10 - c9))
 let x13 : Int := (IntKind.wrap .i64 (x11 * x12))
 let b14 : Bool := (decide (x13 > (65536 : Int)))
 bif b14 then
 k (V.data SRect.sh [])
 else
 loop_R01_Cells_0 a1 a2 c7 c8 c10 a0 (fuel_R01_Cells_0 a1 a2 c7 c8 c10 c9 a0 []) c9 [] (fun i0_z18 r0_z19 =>
 k (V.data SRect.sh r0_z19))
 else
 k (V.data SRect.sh [])
abbrev av_R01_Cells (a0 : SRect) (a1 a2 : Int) : List V := [(SRect.v a0), (V.int .i64 a1), (V.int .i64 a2)]
theorem spec_R01_Cells_eq {R : Type} (a0 : SRect) (a1 a2 : Int) (k : V → Option R) : fnK env_R01_Cells Tryz.f57 (av_R01_Cells a0 a1 a2) k = spec_R01_Cells a0 a1 a2 k := by kernel_rfl
theorem ok_R01_Cells (h_R01_Valid : G_R01_Valid) (h_R01_Empty : G_R01_Empty) (h_R01_Intersect : G_R01_Intersect) (h_R01_CeilDiv : G_R01_CeilDiv) (h_R01_FloorDiv : G_R01_FloorDiv) (a0 : SRect) (a1 a2 : Int) {v : V} (h : Real (av_R01_Cells a0 a1 a2) → spec_R01_Cells a0 a1 a2 some = some v) : FunOK Tryz.prog 57 (av_R01_Cells a0 a1 a2) v :=
  fn_ok (fn := Tryz.f57) (c := bodyOf Tryz.f57) (E := env_R01_Cells) ⟨by kernel_rfl, (goodCons h_R01_Valid (goodCons h_R01_Empty (goodCons h_R01_Intersect (goodCons h_R01_CeilDiv (goodCons h_R01_FloorDiv goodNil))))), rfl, goodS_no⟩ rfl (by kernel_rfl) (by kernel_rfl) (by kernel_rfl)
  (loopsOK_of _ (by
    have e : loopsOf (bodyOf Tryz.f57) = [(0, loopAt Tryz.f57 0), (2, loopAt Tryz.f57 1)] := by kernel_rfl
    rw [e]
    simp only [List.forall_mem_cons, List.not_mem_nil, false_implies, implies_true, and_true]
    exact ⟨good_R01_Cells_0, good_R01_Cells_2⟩))
  (fun hr => (spec_R01_Cells_eq a0 a1 a2 some).trans (h hr))
theorem mk_R01_Cells (h_R01_Valid : G_R01_Valid) (h_R01_Empty : G_R01_Empty) (h_R01_Intersect : G_R01_Intersect) (h_R01_CeilDiv : G_R01_CeilDiv) (h_R01_FloorDiv : G_R01_FloorDiv) (h : ∀ (a0 : SRect) (a1 a2 : Int), Real (av_R01_Cells a0 a1 a2) → spec_R01_Cells a0 a1 a2 some = some (V.data SRect.sh (m_R01_Cells a0 a1 a2))) : G_R01_Cells := goodHook1 fun l hp => by
  unfold hp_R01_Cells at hp
  split at hp
  · rename_i x0 x1 x2 x3 x4 x5
    exact ok_R01_Cells h_R01_Valid h_R01_Empty h_R01_Intersect h_R01_CeilDiv h_R01_FloorDiv (SRect.mk x0 x1 x2 x3) x4 x5 fun hr => h (SRect.mk x0 x1 x2 x3) x4 x5 hr
  · cases hp
noncomputable def env_R24_Tiles {R : Type} : Env R := ⟨Tryz.prog, callCons 17 c_R23_Header (callCons 57 c_R01_Cells callNil), fun _ _ _ _ _ => none, Tryz.f31.results.toList, maskTab 13 [(0, 0x2), (1, 0x22), (2, 0x4), (3, 0x4)], maskAt [(2, 2), (4, 5), (6, 6)], noSort⟩
noncomputable def spec_R24_Tiles {R : Type} (a0 : SHeader) (k : V → Option R) : Option R :=
 let c1 : Int := (m_R23_Header a0)
 bif (c1 != (0 : Int)) then
 k (V.data SRect.sh [])
 else
 let c2 : Rows := (m_R01_Cells a0.Area a0.TileW a0.TileH)
 k (V.data SRect.sh c2)
abbrev av_R24_Tiles (a0 : SHeader) : List V := [(SHeader.v a0)]
theorem spec_R24_Tiles_eq {R : Type} (a0 : SHeader) (k : V → Option R) : fnK env_R24_Tiles Tryz.f31 (av_R24_Tiles a0) k = spec_R24_Tiles a0 k := by kernel_rfl
theorem ok_R24_Tiles (h_R23_Header : G_R23_Header) (h_R01_Cells : G_R01_Cells) (a0 : SHeader) {v : V} (h : Real (av_R24_Tiles a0) → spec_R24_Tiles a0 some = some v) : FunOK Tryz.prog 31 (av_R24_Tiles a0) v :=
  fn_ok (fn := Tryz.f31) (c := bodyOf Tryz.f31) (E := env_R24_Tiles) ⟨by kernel_rfl, (goodCons h_R23_Header (goodCons h_R01_Cells goodNil)), rfl, goodS_no⟩ rfl (by kernel_rfl) (by kernel_rfl) (by kernel_rfl)
  (loopsOK_of _ (by
    have e : loopsOf (bodyOf Tryz.f31) = [] := by kernel_rfl
    rw [e]
    intro p hp; cases hp))
  (fun hr => (spec_R24_Tiles_eq a0 some).trans (h hr))
theorem mk_R24_Tiles (h_R23_Header : G_R23_Header) (h_R01_Cells : G_R01_Cells) (h : ∀ (a0 : SHeader), Real (av_R24_Tiles a0) → spec_R24_Tiles a0 some = some (V.data SRect.sh (m_R24_Tiles a0))) : G_R24_Tiles := goodHook1 fun l hp => by
  unfold hp_R24_Tiles at hp
  split at hp
  · rename_i x0 x1 x2 x3 x4 x5 x6
    exact ok_R24_Tiles h_R23_Header h_R01_Cells (SHeader.mk (SRect.mk x0 x1 x2 x3) x4 x5 x6) fun hr => h (SHeader.mk (SRect.mk x0 x1 x2 x3) x4 x5 x6) hr
  · cases hp
theorem au_R24_Tiles (a0 : SHeader) : spec_R24_Tiles a0 some = some ((fun (m : Rows) => (V.data SRect.sh m)) (m_R24_Tiles a0)) := by
  repeat' (first | rfl | refine bif_t (v := (fun (m : Rows) => (V.data SRect.sh m))) ?_ ?_)
theorem good_R24_Tiles_of (h_R23_Header : G_R23_Header) (h_R01_Cells : G_R01_Cells) : G_R24_Tiles := mk_R24_Tiles h_R23_Header h_R01_Cells (fun _ _ => au_R24_Tiles _)
end Go.Vm
