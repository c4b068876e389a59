/- FileSame: Same reports whether two files are equal as the reference does; Parse and Valid refuse what they should. No condition. -/
import Derived.Test.YtoldachfmeghkaaGreatWJ
import Derived.Test.YtoldachfmeghkaaGreatVmLaw
import Derived.Test.YtoldachfmeghkaaGreatRows
import Derived.WalkKit
import Derived.ProofKit
import Derived.OpenShut
noncomputable section
namespace Go.Vm
open Go.Proofs
theorem fit_nil {vs : List V} (h : FitRow [] vs) : vs = [] := List.eq_nil_of_length_eq_zero h.1
theorem fit_cons {c : CK} {sh : List CK} {vs : List V} (h : FitRow (c :: sh) vs) : ∃ v r, vs = v :: r ∧ FitC c v ∧ FitRow sh r := by
  cases vs with
  | nil => cases h.1
  | cons v r => exact ⟨v, r, rfl, h.2 0 c v rfl rfl, by have := h.1; simpa using this, fun j c' v' h1 h2 => h.2 (j + 1) c' v' (by simpa using h1) (by simpa using h2)⟩
theorem fit_int {k : IntKind} {sh : List CK} {vs : List V} (h : FitRow (.int k :: sh) vs) : ∃ n r, vs = .int k n :: r ∧ FitRow sh r := by
  obtain ⟨v, r, rfl, h1, h2⟩ := fit_cons h
  cases h1
  exact ⟨_, r, rfl, h2⟩
theorem fit_bool {sh : List CK} {vs : List V} (h : FitRow (.bool :: sh) vs) : ∃ b r, vs = .bool b :: r ∧ FitRow sh r := by
  obtain ⟨v, r, rfl, h1, h2⟩ := fit_cons h
  cases h1
  exact ⟨_, r, rfl, h2⟩
theorem fit_sl {s sh : List CK} {vs : List V} (h : FitRow (.sl s :: sh) vs) : ∃ rows r, vs = .data s rows :: r ∧ FitRow sh r := by
  obtain ⟨v, r, rfl, h1, h2⟩ := fit_cons h
  cases h1
  exact ⟨_, r, rfl, h2⟩
theorem arg_agg {P : Program} {t : TypeId} {v : V} (ha : aggT P t = true) (h : ArgOK P t v) : ∃ vs, v = .agg vs ∧ FitRow (ck P t) vs := by
  rcases h with ⟨_, h⟩ | ⟨h1, _⟩
  · exact h
  · rw [ha] at h1; cases h1
theorem fit_str {sh : List CK} {vs : List V} (h : FitRow (.str :: sh) vs) : ∃ n r, vs = .str n :: r ∧ FitRow sh r := by
  obtain ⟨v, r, rfl, h1, h2⟩ := fit_cons h
  cases h1
  exact ⟨_, r, rfl, h2⟩
theorem arg_one {P : Program} {t : TypeId} {v : V} (ha : aggT P t = false) (h : ArgOK P t v) : FitRow (ck P t) [v] := by
  rcases h with ⟨h1, _⟩ | ⟨_, h⟩
  · rw [ha] at h1; cases h1
  · exact h
theorem fit_sl8 {sh : List CK} {vs : List V} (h : FitRow (.sl [.int .u8] :: sh) vs) : ∃ rows r, vs = .data [.int .u8] rows :: r ∧ u8All rows = true ∧ FitRow sh r := by
  obtain ⟨v, r, rfl, h1, h2⟩ := fit_cons h
  cases h1 with
  | sl _ rows hl hr hc =>
    refine ⟨_, r, rfl, ?_, h2⟩
    unfold u8All
    rw [List.all_eq_true]
    intro w hw
    obtain ⟨i, hi⟩ := List.mem_iff_getElem?.1 hw
    have hlen := hr w hw
    match w, hlen, hi with
    | [x], _, hi =>
      have hx := hc i [x] 0 (.int .u8) x hi rfl rfl
      cases hx with
      | int _ n hn =>
        have hn' : (decide ((0 : Int) ≤ n) && decide (n ≤ 255)) = true := hn
        exact hn'
theorem args_FileSame {v1 v2 : V} (h1 : ArgOK Tryz.prog 30 v1) (h2 : ArgOK Tryz.prog 30 v2) : FunOK Tryz.prog 3 [v1, v2] (.bool true) := by
  obtain ⟨xs, rfl, h⟩ := arg_agg (by kernel_rfl) h1
  rw [show ck Tryz.prog 30 = [.int .i64, .sl [.int .i64], .sl [.sl [.int .i64]], .sl [.str, .str], .sl [.int .u8]] from by kernel_rfl] at h
  obtain ⟨x0, xr0, ex0, h⟩ := fit_int h
  obtain ⟨x1, xr1, ex1, h⟩ := fit_sl h
  obtain ⟨x2, xr2, ex2, h⟩ := fit_sl h
  obtain ⟨x3, xr3, ex3, h⟩ := fit_sl h
  obtain ⟨x4, xr4, ex4, ux, h⟩ := fit_sl8 h
  replace h := fit_nil h
  subst_vars
  obtain ⟨ys, rfl, h⟩ := arg_agg (by kernel_rfl) h2
  rw [show ck Tryz.prog 30 = [.int .i64, .sl [.int .i64], .sl [.sl [.int .i64]], .sl [.str, .str], .sl [.int .u8]] from by kernel_rfl] at h
  obtain ⟨y0, yr0, ey0, h⟩ := fit_int h
  obtain ⟨y1, yr1, ey1, h⟩ := fit_sl h
  obtain ⟨y2, yr2, ey2, h⟩ := fit_sl h
  obtain ⟨y3, yr3, ey3, h⟩ := fit_sl h
  obtain ⟨y4, yr4, ey4, uy, h⟩ := fit_sl8 h
  replace h := fit_nil h
  subst_vars
  have hp : pre_L48_FileSame (SFile.mk (SColor.mk x0 x1 x2) x3 x4) (SFile.mk (SColor.mk y0 y1 y2) y3 y4) = true := by
    unfold pre_L48_FileSame
    rw [show u8All x4 = true from ux, show u8All y4 = true from uy]; rfl
  have e : c_L48_FileSame (R := V) [SFile.v (SFile.mk (SColor.mk x0 x1 x2) x3 x4), SFile.v (SFile.mk (SColor.mk y0 y1 y2) y3 y4)] some = bif pre_L48_FileSame (SFile.mk (SColor.mk x0 x1 x2) x3 x4) (SFile.mk (SColor.mk y0 y1 y2) y3 y4) then some (.bool true) else none := by kernel_rfl
  rw [hp] at e
  obtain ⟨v, hv, he⟩ := g_L48_FileSame _ some (.bool true) e
  cases he
  exact hv
end Go.Vm
namespace Go.Proofs.YtoldachfmeghkaaGreat.FileSameLaw
open Go.ChangeShapes Go.WideShapes Go.ChangeAt Go.RowKit
set_option linter.unusedVariables false
set_option maxRecDepth 100000 in
theorem lifted (os : Os) (started : os.Started) (H : Type) (enc : TypeId × Value → H) :
    ReturnsInHanded {} Tryz.checked os 3 .any (Rows.fileSameSpec.pre6 enc Tryz.prog Tryz.f3 Rows.fileSameRow.domain false) (Rows.fileSameSpec.post enc Tryz.prog Tryz.f3 false true false false) := by
  refine returnsInHanded_of_change (C := Tryz.checked) (by kernel_rfl) started (by kernel_rfl) Tryz.func3
    (ChangeSpec.witness6 (enc := enc) (C := Tryz.checked) false ⟨#[], #[.agg #[.int .i64 0, .slice none 0 0, .slice none 0 0, .slice none 0 0, .slice none 0 0], .agg #[.int .i64 0, .slice none 0 0, .slice none 0 0, .slice none 0 0, .slice none 0 0]], []⟩ 8 (by kernel_rfl) (by kernel_rfl) (by kernel_rfl) (by kernel_rfl)) ?_
  intro W base args ds gs before hval hW hcnd _
  refine Vm.law_contract (P := Tryz.prog) (fn := Tryz.f3) (bt := 4) (by kernel_rfl) (by kernel_rfl) rfl (by kernel_rfl) rfl (fun ds hl => ?_) (fun Vs hl hV => ?_) hval hW
  · match ds, hl with
    | [d1, d2], _ => exact ⟨rfl, rfl, rfl⟩
  · match Vs, hl, hV with
    | [v1, v2], _, hV => exact Vm.args_FileSame (hV 0 30 v1 rfl rfl) (hV 1 30 v2 rfl rfl)
theorem over : Rows.fileSameRow.holds Tryz.pinned (OpenSpec.ofChange Rows.fileSameSpec) :=
  OpenClaim.holds_of_wide 3 Tryz.f3 rfl rfl rfl rfl rfl rfl rfl ⟨rfl, rfl, rfl, rfl, rfl⟩ rfl rfl rfl rfl rfl (by kernel_rfl) Tryz.func3 (by kernel_rfl)
    (of_decide_eq_true (by kernel_rfl)) (by unfold Func.isWrapper; first | (rw [if_pos (by decide +kernel)]; kernel_rfl) | (rw [if_neg (by decide +kernel)]; exact ⟨rfl, rfl⟩))
    (fun os started H enc _ => lifted os started H enc)
theorem proved : Rows.FileSameSaid := over
#print axioms proved
end Go.Proofs.YtoldachfmeghkaaGreat.FileSameLaw
