/- IndexKeeps: the statement. -/
import Derived.Test.YtjekfokamcfffaaVmKeepQ
import Derived.WalkKit
import Derived.ProofKit
import Derived.OpenShut
namespace Go.Vm
theorem arg_slice {P : Program} {t : TypeId} {v : V} {sh : List CK} (ha : aggT P t = false) (hk : ck P t = [.sl sh]) (h : ArgOK P t v) : ∃ rows, v = .data sh rows := by
  rcases h with ⟨h1, _⟩ | ⟨_, h2⟩
  · rw [ha] at h1; cases h1
  · rw [hk] at h2
    have := h2.2 0 (.sl sh) v rfl rfl
    cases this
    exact ⟨_, rfl⟩
end Go.Vm
namespace Go.Proofs.Ytjekfokamcfffaa.KeepLaw
open Go.ChangeShapes Go.WideShapes Go.ChangeAt Go.RowKit
set_option linter.unusedVariables false
set_option maxRecDepth 100000 in
theorem lifted (os : Os) (started : os.Started) (H : Type) (enc : TypeId × Value → H) :
    ReturnsInHanded {} Try.checked os 3 .any (Rows.indexKeepsSpec.pre6 enc Try.prog Try.f3 Rows.indexKeepsRow.domain false) (Rows.indexKeepsSpec.post enc Try.prog Try.f3 false true false false) := by
  refine returnsInHanded_of_change (C := Try.checked) (by kernel_rfl) started (by kernel_rfl) Try.func3
    (ChangeSpec.witness6 (enc := enc) (C := Try.checked) false ⟨#[], #[.slice none 0 0, .slice none 0 0], []⟩ 8 (by kernel_rfl) (by kernel_rfl) (by kernel_rfl) (by kernel_rfl)) ?_
  intro W base args ds gs before hval hW hcnd _
  refine Vm.law_contract (P := Try.prog) (fn := Try.f3) (bt := 4) (by kernel_rfl) (by kernel_rfl) rfl (by kernel_rfl) rfl (fun ds hl => ?_) (fun Vs hl hV => ?_) hval hW
  · match ds, hl with
    | [d1, d2], _ => exact ⟨rfl, rfl, rfl⟩
  · match Vs, hl, hV with
    | [v1, v2], _, hV =>
      have h1 := hV 0 22 v1 rfl rfl
      have h2 := hV 1 23 v2 rfl rfl
      have k1 : Vm.ck Try.prog 22 = [.sl [.int .u8]] := by kernel_rfl
      have k2 : Vm.ck Try.prog 23 = [.sl [.int .i64, .int .i64]] := by kernel_rfl
      have a1 : Vm.aggT Try.prog 22 = false := by kernel_rfl
      have a2 : Vm.aggT Try.prog 23 = false := by kernel_rfl
      obtain ⟨rb, rfl⟩ := Vm.arg_slice a1 k1 h1
      obtain ⟨rs, rfl⟩ := Vm.arg_slice a2 k2 h2
      exact Vm.law3 rb rs

theorem over : Rows.indexKeepsRow.holds Try.pinned (OpenSpec.ofChange Rows.indexKeepsSpec) :=
  OpenClaim.holds_of_wide 3 Try.f3 rfl rfl rfl rfl rfl rfl rfl ⟨rfl, rfl, rfl, rfl, rfl⟩ rfl rfl rfl rfl rfl (by kernel_rfl) Try.func3 (by kernel_rfl)
    (of_decide_eq_true (by kernel_rfl)) (by unfold Func.isWrapper; first | (rw [if_pos (by decide +kernel)]; kernel_rfl) | (rw [if_neg (by decide +kernel)]; exact ⟨rfl, rfl⟩))
    (fun os started H enc _ => lifted os started H enc)

theorem proved : Rows.IndexKeepsSaid := over
#print axioms proved
end Go.Proofs.Ytjekfokamcfffaa.KeepLaw
