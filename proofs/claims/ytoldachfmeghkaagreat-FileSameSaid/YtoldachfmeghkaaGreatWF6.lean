import Derived.Test.YtoldachfmeghkaaGreatWC
import Derived.Test.YtoldachfmeghkaaGreatWA
set_option linter.unusedVariables false
set_option linter.unusedSimpArgs false
set_option maxRecDepth 100000
noncomputable section
namespace Go.Vm
open Go.Proofs
def nodB : List Nat → Bool
  | [] => true
  | a :: r => !r.any (Nat.beq a) && nodB r
theorem idsOK_of : ∀ (ls : List (Nat × Code)), nodB (ls.map Prod.fst) = true → idsOK ls
  | [], _ => fun p hp => by cases hp
  | q :: r, h => fun p hp => by
    rw [List.map_cons, nodB, Bool.and_eq_true] at h
    rcases List.mem_cons.1 hp with rfl | hp
    · rw [List.find?_cons_of_pos]; exact Nat.beq_refl _
    · rw [List.find?_cons_of_neg]
      · exact idsOK_of r h.2 p hp
      · intro hb
        have h1 := h.1
        have : (r.map Prod.fst).any (Nat.beq q.1) = true := List.any_eq_true.2 ⟨p.1, List.mem_map_of_mem hp, hb⟩
        rw [this] at h1; cases h1
noncomputable def envF (fn : Func) (calls : Nat → List V → (V → Option V) → Option V) (S : Sorts) (m : Nat) : Env V :=
  { (⟨Tryz.prog, calls, fun _ _ _ _ _ => none, fn.results.toList, fun _ => List.replicate fn.ntmps true, fun _ => 0, S⟩ : Env V) with
    loopK := loopF ⟨Tryz.prog, calls, fun _ _ _ _ _ => none, fn.results.toList, fun _ => List.replicate fn.ntmps true, fun _ => 0, S⟩ (loopsOf (bodyOf fn)) m }
theorem envF_ok {f : Nat} {fn : Func} {calls : Nat → List V → (V → Option V) → Option V} {S : Sorts} {m : Nat} (hC : GoodC Tryz.prog calls) (hS : GoodS Tryz.prog S) (hi : nodB ((loopsOf (bodyOf fn)).map Prod.fst) = true) (hf : Tryz.prog.funcs[f]? = some fn) (hb : fn.body = some (bodyOf fn)) (hn : (fn.name == "runtime.NumGoroutine") = false) {args : List V} {v : V}
    (h : fnK (envF fn calls S m) fn args some = some v) : FunOK Tryz.prog f args v :=
  fn_ok (fn := fn) (c := bodyOf fn) (E := envF fn calls S m) ⟨by kernel_rfl, hC, rfl, hS⟩ rfl hf hb hn (loopsF (idsOK_of _ hi) _ m fun p hp => hp) fun _ => h
noncomputable def cK (fn : Func) (calls : Nat → List V → (V → Option V) → Option V) (S : Sorts) (m : Nat) : CallF V := fun args k => match fnK (envF fn calls S m) fn args some with
  | some v => k v
  | none => none
theorem good_cK {f : Nat} {fn : Func} {calls : Nat → List V → (V → Option V) → Option V} {S : Sorts} {m : Nat} (hC : GoodC Tryz.prog calls) (hS : GoodS Tryz.prog S) (hi : nodB ((loopsOf (bodyOf fn)).map Prod.fst) = true) (hf : Tryz.prog.funcs[f]? = some fn) (hb : fn.body = some (bodyOf fn)) (hn : (fn.name == "runtime.NumGoroutine") = false) : Good1 (R := V) Tryz.prog f (cK fn calls S m) := by
  intro args k r h
  unfold cK at h
  split at h
  · rename_i v hv
    exact ⟨v, envF_ok hC hS hi hf hb hn hv, h⟩
  · cases h
noncomputable def handS (f : Nat) (fn : Func) (calls : Nat → List V → (V → Option V) → Option V) (m : Nat) : Sorts :=
  { noSort with hf := Nat.beq f, hd := fun sf n h args => bif Nat.beq f sf then fnH (envF fn calls noSort m) fn args h n some else none }
theorem good_handS {f : Nat} {fn : Func} {calls : Nat → List V → (V → Option V) → Option V} {m : Nat} (hC : GoodC Tryz.prog calls) (hi : nodB ((loopsOf (bodyOf fn)).map Prod.fst) = true) (hf : Tryz.prog.funcs[f]? = some fn) (hb : fn.body = some (bodyOf fn)) (hn : (fn.name == "runtime.NumGoroutine") = false) : GoodS Tryz.prog (handS f fn calls m) :=
  ⟨fun _ _ _ _ _ _ h => (by cases h), fun sf n h args v hv => by
    simp only [handS] at hv
    cases hs : Nat.beq f sf with
    | false => rw [hs] at hv; cases hv
    | true =>
      rw [hs] at hv
      have e := Nat.eq_of_beq_eq_true hs
      subst e
      exact hand_ok (fn := fn) (c := bodyOf fn) (E := envF fn calls noSort m) ⟨by kernel_rfl, hC, rfl, goodS_no⟩ rfl hf hb hn (loopsF (idsOK_of _ hi) _ m fun p hp => hp) hv⟩
end Go.Vm
set_option linter.unusedVariables false
set_option linter.unusedSimpArgs false
set_option maxRecDepth 100000
noncomputable section
namespace Go.Vm
open Go.Proofs
theorem u8_eq {x : List V} {n : Int} (h : u8 x = some n) : x = [V.int .u8 n] := by
  unfold u8 at h
  split at h
  · cases h; rfl
  · cases h
theorem byB_eq : ∀ (l : Rows) (ns : List Int), byB l ns = true → l = ns.map fun n => [V.int .u8 n]
  | [], [], _ => rfl
  | [], _ :: _, h => by cases h
  | _ :: _, [], h => by cases h
  | x :: r, m :: l, h => by
    simp only [byB, Bool.and_eq_true, beq_iff_eq] at h
    rw [List.map_cons, ← u8_eq h.1, ← byB_eq r l h.2]
abbrev CallsV := Nat → List V → (V → Option V) → Option V
noncomputable def k75 : CallsV := callCons 117 (cK Tryz.f117 callNil noSort 20) (callCons 118 (cK Tryz.f118 callNil noSort 20) callNil)
noncomputable def s40 : Sorts := handS 75 Tryz.f75 k75 20
noncomputable def k42 : CallsV := callCons 41 (cK Tryz.f41 callNil noSort 20) callNil
noncomputable def k20 : CallsV := callCons 40 (cK Tryz.f40 callNil s40 20) (callCons 41 (cK Tryz.f41 callNil noSort 20) (callCons 42 (cK Tryz.f42 k42 noSort 20) callNil))
noncomputable def k9 : CallsV := callCons 20 (cK Tryz.f20 k20 noSort 20) callNil
noncomputable def k49 : CallsV := callCons 90 (cK Tryz.f90 callNil noSort 20) callNil
noncomputable def k44 : CallsV := callCons 49 (cK Tryz.f49 k49 noSort 20) callNil
noncomputable def k21 : CallsV := callCons 44 (cK Tryz.f44 k44 noSort 20) callNil
noncomputable def k26 : CallsV := callCons 21 (cK Tryz.f21 k21 noSort 20) callNil
noncomputable def k10 : CallsV := callCons 26 (cK Tryz.f26 k26 noSort 20) callNil
theorem gk75 : GoodC Tryz.prog k75 := goodCons (good_cK goodNil goodS_no (by kernel_rfl) (by kernel_rfl) (by kernel_rfl) (by kernel_rfl)) (goodCons (good_cK goodNil goodS_no (by kernel_rfl) (by kernel_rfl) (by kernel_rfl) (by kernel_rfl)) goodNil)
theorem gs40 : GoodS Tryz.prog s40 := good_handS gk75 (by kernel_rfl) (by kernel_rfl) (by kernel_rfl) (by kernel_rfl)
theorem g41 : Good1 (R := V) Tryz.prog 41 (cK Tryz.f41 callNil noSort 20) := good_cK goodNil goodS_no (by kernel_rfl) (by kernel_rfl) (by kernel_rfl) (by kernel_rfl)
theorem gk20 : GoodC Tryz.prog k20 := goodCons (good_cK goodNil gs40 (by kernel_rfl) (by kernel_rfl) (by kernel_rfl) (by kernel_rfl)) (goodCons g41 (goodCons (good_cK (goodCons g41 goodNil) goodS_no (by kernel_rfl) (by kernel_rfl) (by kernel_rfl) (by kernel_rfl)) goodNil))
theorem gk9 : GoodC Tryz.prog k9 := goodCons (good_cK gk20 goodS_no (by kernel_rfl) (by kernel_rfl) (by kernel_rfl) (by kernel_rfl)) goodNil
theorem gk49 : GoodC Tryz.prog k49 := goodCons (good_cK goodNil goodS_no (by kernel_rfl) (by kernel_rfl) (by kernel_rfl) (by kernel_rfl)) goodNil
theorem gk44 : GoodC Tryz.prog k44 := goodCons (good_cK gk49 goodS_no (by kernel_rfl) (by kernel_rfl) (by kernel_rfl) (by kernel_rfl)) goodNil
theorem gk21 : GoodC Tryz.prog k21 := goodCons (good_cK gk44 goodS_no (by kernel_rfl) (by kernel_rfl) (by kernel_rfl) (by kernel_rfl)) goodNil
theorem gk26 : GoodC Tryz.prog k26 := goodCons (good_cK gk21 goodS_no (by kernel_rfl) (by kernel_rfl) (by kernel_rfl) (by kernel_rfl)) goodNil
theorem gk10 : GoodC Tryz.prog k10 := goodCons (good_cK gk26 goodS_no (by kernel_rfl) (by kernel_rfl) (by kernel_rfl) (by kernel_rfl)) goodNil
theorem good_file_Parse_of : G_file_Parse := goodHook1 fun l hp => by
  unfold hp_file_Parse at hp
  split at hp
  · rename_i x0
    have e := byB_eq _ _ hp
    subst e
    exact envF_ok (fn := Tryz.f9) (calls := k9) (S := noSort) (m := 20) gk9 goodS_no (by kernel_rfl) (by kernel_rfl) (by kernel_rfl) (by kernel_rfl) (by kernel_rfl)
  · cases hp
theorem good_file_Valid_of : G_file_Valid := goodHook1 fun l hp => by
  unfold hp_file_Valid at hp
  split at hp
  · rename_i x0 x1 x2 x3 x4
    have e : x4 = [] := List.eq_nil_of_length_eq_zero (Nat.eq_of_beq_eq_true hp)
    subst e
    exact envF_ok (fn := Tryz.f10) (calls := k10) (S := noSort) (m := 20) gk10 goodS_no (by kernel_rfl) (by kernel_rfl) (by kernel_rfl) (by kernel_rfl) (by kernel_rfl)
  · cases hp
end Go.Vm
