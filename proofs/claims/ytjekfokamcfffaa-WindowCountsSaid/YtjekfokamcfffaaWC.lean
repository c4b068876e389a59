/- WindowCounts: how many code blocks are needed with and without a window, for every header, parameters, tile and view; nothing that was handed in changes. No condition. -/
import Derived.Test.YtjekfokamcfffaaWPb
import Derived.Test.YtjekfokamcfffaaVmLaw
import Derived.Test.YtjekfokamcfffaaRows
import Derived.WalkKit
import Derived.ProofKit
import Derived.OpenShut
noncomputable section
namespace Go.Vm
open Go.Proofs
theorem g_I4 : G_I4 := good_I4_of
theorem g_H8 : G_H8 := good_H8_of
theorem g_F9 : G_F9 := good_F9_of
theorem g_H0 : G_H0 := good_H0_of g_I4 g_F9
theorem g_K0 : G_K0 := good_K0_of
theorem g_E6 : G_E6 := good_E6_of
theorem g_H6 : G_H6 := good_H6_of g_F9 g_E6
theorem g_J6 : G_J6 := good_J6_of g_I4
theorem g_H4 : G_H4 := good_H4_of g_I4 g_H8 g_H0 g_K0 g_H6 g_J6
theorem g_E0 : G_E0 := good_E0_of g_H8
theorem g_H5 : G_H5 := good_H5_of g_H8 g_E0 g_I4 g_F9 g_E6
theorem g_I3 : G_I3 := good_I3_of g_H4 g_H5
theorem g_I1 : G_I1 := good_I1_of
theorem g_G0 : G_G0 := good_G0_of g_K0
theorem g_I0 : G_I0 := good_I0_of
theorem g_C1 : G_C1 := good_C1_of g_H0 g_I0
theorem g_E5 : G_E5 := good_E5_of
theorem g_J7 : G_J7 := good_J7_of g_H8 g_F9 g_E6
theorem g_G1 : G_G1 := good_G1_of g_H0 g_C1 g_E5 g_J7
theorem g_J3 : G_J3 := good_J3_of
theorem g_H7 : G_H7 := good_H7_of g_I4 g_J3
theorem g_I5 : G_I5 := good_I5_of g_I0
theorem g_J5 : G_J5 := good_J5_of g_I4 g_C1 g_H7 g_I5
theorem g_G8 : G_G8 := good_G8_of g_H0 g_E5 g_J7 g_J5
theorem g_I6 : G_I6 := good_I6_of g_H4 g_H5 g_I1 g_G0 g_G1 g_G8
theorem g_D5 : G_D5 := good_D5_of g_I3 g_I6
theorem g_F5 : G_F5 := good_F5_of g_I3 g_G1 g_D5
theorem g_J9 : G_J9 := good_J9_of g_H4 g_I3 g_I6 g_F5
theorem g_H1 : G_H1 := good_H1_of
theorem g_H2 : G_H2 := good_H2_of
theorem g_E3 : G_E3 := good_E3_of
theorem g_F4 : G_F4 := good_F4_of g_H1 g_E3
theorem g_D8 : G_D8 := good_D8
theorem g_D1 : G_D1 := good_D1_of
theorem g_H9 : G_H9 := good_H9_of g_H1
theorem g_C9 : G_C9 := good_C9_of g_H1 g_H2 g_F4 g_D8 g_E3 g_D1 g_H9
theorem g_C6 : G_C6 := good_C6_of g_H2
theorem g_G5 : G_G5 := good_G5_of g_H1 g_H2 g_C6 g_E3 g_D1
theorem g_E7 : G_E7 := good_E7_of g_C9 g_G5
theorem g_C5 : G_C5 := good_C5_of g_D8
theorem g_A4 : G_A4 := good_A4_of
theorem g_A6 : G_A6 := good_A6_of g_F4 g_A4
theorem g_B5 : G_B5 := good_B5_of
theorem g_B4 : G_B4 := good_B4_of g_A4
theorem g_J1 : G_J1 := good_J1_of g_H1
theorem g_D9 : G_D9 := good_D9_of g_A4
theorem g_D6 : G_D6 := good_D6_of g_D9
theorem g_F1 : G_F1 := good_F1_of g_H1 g_A6 g_J1 g_D6
theorem g_E4 : G_E4 := good_E4_of g_H2 g_E3 g_D1
theorem g_B9 : G_B9 := good_B9_of g_F4 g_A6 g_B5 g_B4 g_F1 g_E4
theorem g_E2 : G_E2 := good_E2_of g_C9 g_G5 g_D8 g_C5 g_B9
theorem g_D7 : G_D7 := good_D7_of g_E7 g_E2
theorem g_B0 : G_B0 := good_B0_of g_E7 g_F4
theorem g_A5 : G_A5 := good_A5_of
theorem g_C2 : G_C2 := good_C2_of
theorem g_C3 : G_C3 := good_C3_of g_H1 g_H2 g_A5 g_C2
theorem g_A3 : G_A3 := good_A3_of g_C3
theorem g_A8 : G_A8 := good_A8_of g_D7 g_B0 g_A6 g_B5 g_A3
theorem g_F8 : G_F8 := good_F8_of
theorem g_B6 : G_B6 := good_B6_of g_C3
theorem g_C8 : G_C8 := good_C8_of
theorem g_B1 : G_B1 := good_B1_of g_H1 g_C6 g_B6 g_C8
theorem g_A9 : G_A9 := good_A9_of g_C6 g_C3 g_C8
theorem g_F3 : G_F3 := good_F3_of g_B0 g_A6 g_B5 g_D6 g_B1 g_F1 g_A9
theorem g_A7 : G_A7 := good_A7_of g_F3
theorem g_B8 : G_B8 := good_B8_of g_F8 g_A7 g_B4
theorem g_G6 : G_G6 := good_G6_of g_D7 g_A8 g_B8 g_F8
theorem g_A0 : G_A0 := good_A0_of
theorem g_A1 : G_A1 := good_A1_of
theorem g_A2 : G_A2 := good_A2_of
theorem g_E8 : G_E8 := good_E8_of g_A0 g_A1 g_A2
theorem g_B7 : G_B7 := good_B7_of g_C9 g_H1 g_H2 g_C6 g_E2 g_E8 g_F4
theorem g_F2 : G_F2 := good_F2_of
theorem g_F0 : G_F0 := good_F0_of g_H1 g_H2 g_C6 g_A6 g_F2 g_A4 g_D9 g_J1
theorem g_D4 : G_D4 := good_D4_of g_G6 g_E7 g_H2 g_C6 g_F4 g_F0 g_B0
theorem g_D2 : G_D2 := good_D2_of g_G6 g_B7 g_E7 g_D4
theorem g_E9 : G_E9 := good_E9_of g_E7 g_C9 g_H1 g_H2 g_C6
theorem g_I7 : G_I7 := good_I7_of
theorem g_J0 : G_J0 := good_J0_of g_D2 g_E9 g_I7
theorem g_B2 : G_B2 := good_B2_of g_J9 g_J0 g_D2 g_E9 g_G6 g_I7
theorem fit_nil {vs : List V} (h : FitRow [] vs) : vs = [] := List.eq_nil_of_length_eq_zero h.1
theorem fit_cons {c : CK} {sh : List CK} {vs : List V} (h : FitRow (c :: sh) vs) : ∃ v r, vs = v :: r /\ FitC c v /\ FitRow sh r := by
  cases vs with
  | nil => cases h.1
  | cons v r => exact ⟨v, r, rfl, h.2 0 c v rfl rfl, by have := h.1; simpa using this, fun j c' v' h1 h2 => h.2 (j + 1) c' v' (by simpa using h1) (by simpa using h2)⟩
theorem fit_int {k : IntKind} {sh : List CK} {vs : List V} (h : FitRow (.int k :: sh) vs) : ∃ n r, vs = .int k n :: r /\ FitRow sh r := by
  obtain ⟨v, r, rfl, h1, h2⟩ := fit_cons h
  cases h1
  exact ⟨_, r, rfl, h2⟩
theorem fit_bool {sh : List CK} {vs : List V} (h : FitRow (.bool :: sh) vs) : ∃ b r, vs = .bool b :: r /\ FitRow sh r := by
  obtain ⟨v, r, rfl, h1, h2⟩ := fit_cons h
  cases h1
  exact ⟨_, r, rfl, h2⟩
theorem fit_sl {s sh : List CK} {vs : List V} (h : FitRow (.sl s :: sh) vs) : ∃ rows r, vs = .data s rows :: r /\ FitRow sh r := by
  obtain ⟨v, r, rfl, h1, h2⟩ := fit_cons h
  cases h1
  exact ⟨_, r, rfl, h2⟩
theorem arg_agg {P : Program} {t : TypeId} {v : V} (ha : aggT P t = true) (h : ArgOK P t v) : ∃ vs, v = .agg vs /\ FitRow (ck P t) vs := by
  rcases h with ⟨_, h⟩ | ⟨h1, _⟩
  · exact h
  · rw [ha] at h1; cases h1
theorem args_WindowCounts {v1 v2 : V} (h1 : ArgOK Try.prog 43 v1) (h2 : ArgOK Try.prog 45 v2) : FunOK Try.prog 6 [v1, v2] (.bool true) := by
  obtain ⟨vs, rfl, h⟩ := arg_agg (by kernel_rfl) h1
  rw [show ck Try.prog 43 = [.int .i64, .int .i64, .int .i64, .int .i64, .int .i64, .int .i64, .sl [.int .i64, .bool, .int .i64, .int .i64], .int .i64, .int .i64, .int .i64, .int .i64, .int .i64, .sl [.int .i64, .int .i64], .int .i64, .int .i64, .bool, .bool, .bool, .bool, .bool, .bool, .bool, .bool, .sl [.int .i64], .int .i64, .int .i64, .int .i64] from by kernel_rfl] at h
  obtain ⟨x0, r0, ex0, h⟩ := fit_int h
  obtain ⟨x1, r1, ex1, h⟩ := fit_int h
  obtain ⟨x2, r2, ex2, h⟩ := fit_int h
  obtain ⟨x3, r3, ex3, h⟩ := fit_int h
  obtain ⟨x4, r4, ex4, h⟩ := fit_int h
  obtain ⟨x5, r5, ex5, h⟩ := fit_int h
  obtain ⟨x6, r6, ex6, h⟩ := fit_sl h
  obtain ⟨x7, r7, ex7, h⟩ := fit_int h
  obtain ⟨x8, r8, ex8, h⟩ := fit_int h
  obtain ⟨x9, r9, ex9, h⟩ := fit_int h
  obtain ⟨x10, r10, ex10, h⟩ := fit_int h
  obtain ⟨x11, r11, ex11, h⟩ := fit_int h
  obtain ⟨x12, r12, ex12, h⟩ := fit_sl h
  obtain ⟨x13, r13, ex13, h⟩ := fit_int h
  obtain ⟨x14, r14, ex14, h⟩ := fit_int h
  obtain ⟨x15, r15, ex15, h⟩ := fit_bool h
  obtain ⟨x16, r16, ex16, h⟩ := fit_bool h
  obtain ⟨x17, r17, ex17, h⟩ := fit_bool h
  obtain ⟨x18, r18, ex18, h⟩ := fit_bool h
  obtain ⟨x19, r19, ex19, h⟩ := fit_bool h
  obtain ⟨x20, r20, ex20, h⟩ := fit_bool h
  obtain ⟨x21, r21, ex21, h⟩ := fit_bool h
  obtain ⟨x22, r22, ex22, h⟩ := fit_bool h
  obtain ⟨x23, r23, ex23, h⟩ := fit_sl h
  obtain ⟨x24, r24, ex24, h⟩ := fit_int h
  obtain ⟨x25, r25, ex25, h⟩ := fit_int h
  obtain ⟨x26, r26, ex26, h⟩ := fit_int h
  replace h := fit_nil h
  subst_vars
  obtain ⟨ws, rfl, h⟩ := arg_agg (by kernel_rfl) h2
  rw [show ck Try.prog 45 = [.int .i64, .int .i64, .int .i64, .int .i64, .int .i64, .int .i64] from by kernel_rfl] at h
  obtain ⟨y0, s0, ey0, h⟩ := fit_int h
  obtain ⟨y1, s1, ey1, h⟩ := fit_int h
  obtain ⟨y2, s2, ey2, h⟩ := fit_int h
  obtain ⟨y3, s3, ey3, h⟩ := fit_int h
  obtain ⟨y4, s4, ey4, h⟩ := fit_int h
  obtain ⟨y5, s5, ey5, h⟩ := fit_int h
  replace h := fit_nil h
  subst_vars
  obtain ⟨v, hv, he⟩ := g_B2 _ some (.bool true) (show c_B2 [SL39_Place.v (SL39_Place.mk (SHeader.mk (SRect.mk x0 x1 x2 x3) x4 x5 x6) (SParams.mk x7 x8 x9 x10 x11 x12 x13 x14 (SMode.mk x15 x16 x17 x18 x19) x20 x21 x22 x23 x24 x25) x26), SView.v ⟨y0, y1, ⟨y2, y3, y4, y5⟩⟩] some = some (.bool true) from by kernel_rfl)
  cases he
  exact hv
end Go.Vm
namespace Go.Proofs.Ytjekfokamcfffaa.WindowCountsLaw
open Go.ChangeShapes Go.WideShapes Go.ChangeAt Go.RowKit
set_option linter.unusedVariables false
set_option maxRecDepth 100000 in
theorem lifted (os : Os) (started : os.Started) (H : Type) (enc : TypeId × Value -> H) :
    ReturnsInHanded {} Try.checked os 6 .any (Rows.windowCountsSpec.pre6 enc Try.prog Try.f6 Rows.windowCountsRow.domain false) (Rows.windowCountsSpec.post enc Try.prog Try.f6 false true false false) := by
  refine returnsInHanded_of_change (C := Try.checked) (by kernel_rfl) started (by kernel_rfl) Try.func6
    (ChangeSpec.witness6 (enc := enc) (C := Try.checked) false ⟨#[], #[.agg #[.int .i64 0, .int .i64 0, .int .i64 0, .int .i64 0, .int .i64 0, .int .i64 0, .slice none 0 0, .int .i64 0, .int .i64 0, .int .i64 0, .int .i64 0, .int .i64 0, .slice none 0 0, .int .i64 0, .int .i64 0, .bool false, .bool false, .bool false, .bool false, .bool false, .bool false, .bool false, .bool false, .slice none 0 0, .int .i64 0, .int .i64 0, .int .i64 0], .agg #[.int .i64 0, .int .i64 0, .int .i64 0, .int .i64 0, .int .i64 0, .int .i64 0]], []⟩ 8 (by kernel_rfl) (by kernel_rfl) (by kernel_rfl) (by kernel_rfl)) ?_
  intro W base args ds gs before hval hW hcnd _
  refine Vm.law_contract (P := Try.prog) (fn := Try.f6) (bt := 4) (by kernel_rfl) (by kernel_rfl) rfl (by kernel_rfl) rfl (fun ds hl => ?_) (fun Vs hl hV => ?_) hval hW
  · match ds, hl with
    | [d1, d2], _ => exact ⟨rfl, rfl, rfl⟩
  · match Vs, hl, hV with
    | [v1, v2], _, hV => exact Vm.args_WindowCounts (hV 0 43 v1 rfl rfl) (hV 1 45 v2 rfl rfl)
theorem over : Rows.windowCountsRow.holds Try.pinned (OpenSpec.ofChange Rows.windowCountsSpec) :=
  OpenClaim.holds_of_wide 6 Try.f6 rfl rfl rfl rfl rfl rfl rfl ⟨rfl, rfl, rfl, rfl, rfl⟩ rfl rfl rfl rfl rfl (by kernel_rfl) Try.func6 (by kernel_rfl)
    (of_decide_eq_true (by kernel_rfl)) (by unfold Func.isWrapper; first | (rw [if_pos (by decide +kernel)]; kernel_rfl) | (rw [if_neg (by decide +kernel)]; exact ⟨rfl, rfl⟩))
    (fun os started H enc _ => lifted os started H enc)
theorem proved : Rows.WindowCountsSaid := over
#print axioms proved
end Go.Proofs.Ytjekfokamcfffaa.WindowCountsLaw
