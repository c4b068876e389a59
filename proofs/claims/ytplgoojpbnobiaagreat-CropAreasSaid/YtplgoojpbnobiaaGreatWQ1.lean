import Derived.Test.YtplgoojpbnobiaaGreatWP2
set_option linter.unusedVariables false
set_option linter.unusedSimpArgs false
set_option maxRecDepth 100000
noncomputable section
namespace Go.Vm
open Go.Proofs
theorem u8_eq {x : List V} {n : Int} (h : u8 x = some n) : x = [V.int .u8 n] := by
  unfold u8 at h
  split at h
  · cases h; rfl
  · cases h
theorem byB_eq : ∀ (l : Rows) (ns : List Int), byB l ns = true → l = ns.map fun n => [V.int .u8 n]
  | [], [], _ => rfl
  | [], _ :: _, h => by cases h
  | _ :: _, [], h => by cases h
  | x :: r, m :: l, h => by
    simp only [byB, Bool.and_eq_true, beq_iff_eq] at h
    rw [List.map_cons, ← u8_eq h.1, ← byB_eq r l h.2]
noncomputable def envC {R : Type} (f : Func) (calls : Nat → List V → (V → Option R) → Option R) : Env R := ⟨Tryz.prog, calls, fun _ _ _ _ _ => none, f.results.toList, fun _ => List.replicate f.ntmps true, fun _ => 0, noSort⟩
theorem conc_ok {f : Nat} {fn : Func} {calls : Nat → List V → (V → Option V) → Option V} (hC : GoodC Tryz.prog calls) (hf : Tryz.prog.funcs[f]? = some fn) (hb : fn.body = some (bodyOf fn)) (hn : (fn.name == "runtime.NumGoroutine") = false) {args : List V} {v : V}
    (h : fnK (envC fn calls) fn args some = some v) : FunOK Tryz.prog f args v :=
  fn_ok (fn := fn) (c := bodyOf fn) (E := envC fn calls) ⟨by kernel_rfl, hC, rfl, goodS_no⟩ rfl hf hb hn (loopsOK_of _ fun p hp s0 kn kx kr r h => by cases h) fun _ => h
theorem step_ReadUint {R : Type} (l : Rows) (v i : Int) (again kn : Int → Int → Option R) (h0 : 0 ≤ i) (hl : l.length ≤ 1099511627776) :
    step_marker_ReadUint_0 l (l.length : Int) v i again kn = bif decide (i < (l.length : Int)) then again (intBits .or .i64 (IntKind.wrap .i64 (v * 2 ^ 8)) (IntKind.wrap .i64 (V.toInt (List.getD (l.getD i.toNat []) 0 V.undef)))) (i + 1) else kn v i := by
  unfold step_marker_ReadUint_0
  by_cases hi : i < (l.length : Int)
  · simp only [decide_eq_true hi, cond_true, inR_of h0 hi]
    rw [w64 (n := i + 1) (by omega) (by omega)]
  · simp only [decide_eq_false hi, cond_false]
theorem loop_ReadUint {R : Type} (l : Rows) (e : Int → Option R) (hl : l.length ≤ 1099511627776) :
    loop_marker_ReadUint_0 l (l.length : Int) (fuel_marker_ReadUint_0 0 l (l.length : Int) 0) 0 0 (fun v _ => e v) = e (readL l) := by
  have h := loop_foldB (b := (l.length : Int)) (L := fun n i v => loop_marker_ReadUint_0 l (l.length : Int) n v i (fun v _ => e v)) (e := e) (g := fun v i => intBits .or .i64 (IntKind.wrap .i64 (v * 2 ^ 8)) (IntKind.wrap .i64 (V.toInt (List.getD (l.getD i.toNat []) 0 V.undef)))) (fun i _ => 0 ≤ i)
    (fun n i v h0 => step_ReadUint l v i _ _ h0 hl) (fun i s h0 _ => by omega) (fuel_marker_ReadUint_0 0 l (l.length : Int) 0) 0 0 (Int.le_refl 0) (Nat.le_refl _)
  refine h.trans ?_
  rw [rng_foldl (fun v w => intBits .or .i64 (IntKind.wrap .i64 (v * 2 ^ 8)) (IntKind.wrap .i64 (V.toInt (List.getD w 0 V.undef))))]
  rfl
theorem good_marker_ReadUint_of : G_marker_ReadUint := mk_marker_ReadUint fun b at_ n hp _ => by
  have hl : b.length ≤ 1099511627776 := Nat.le_of_ble_eq_true hp
  unfold spec_marker_ReadUint m_marker_ReadUint
  by_cases h1 : n < 1
  · simp [h1]
  by_cases h2 : n > 4
  · simp [h1, h2]
  by_cases h3 : at_ < 0
  · simp [h1, h2, h3]
  by_cases h4 : at_ > (b.length : Int)
  · simp [h1, h2, h3, h4]
  have e1 : IntKind.wrap .i64 ((b.length : Int) - at_) = (b.length : Int) - at_ := w64 (by omega) (by omega)
  simp only [h1, h2, h3, h4, decide_false, cond_false, cond_true, beq_self_eq_true, e1, Bool.or_false]
  by_cases h5 : (b.length : Int) - at_ < n
  · simp only [decide_eq_true h5, cond_true]
  have e2 : IntKind.wrap .i64 (at_ + n) = at_ + n := w64 (by omega) (by omega)
  have c1 : decide (0 ≤ at_) = true := by simp; omega
  have c2 : decide (at_ ≤ at_ + n) = true := by simp; omega
  have c3 : decide (at_ + n ≤ (b.length : Int)) = true := by simp; omega
  simp only [decide_eq_false h5, cond_false, e2, c1, c2, c3, cond_true, Bool.and_self]
  rw [loop_ReadUint _ _ (by rw [List.length_drop, List.length_take]; omega)]
theorem good_marker_Read (h1 : G_marker_ReadUint) (h2 : G_marker_Known) : G_marker_Read := goodHook1 fun l hp => by
  unfold hp_marker_Read at hp
  split at hp
  · rename_i x0 x1
    unfold pre_marker_Read at hp
    simp only [Bool.and_eq_true, Bool.or_eq_true, beq_iff_eq] at hp
    obtain ⟨h | h, rfl⟩ := hp
    · have e := byB_eq _ _ h
      subst e
      exact conc_ok (fn := Tryz.f62) (calls := callCons 87 c_marker_ReadUint (callCons 88 c_marker_Known callNil)) (goodCons h1 (goodCons h2 goodNil)) (by kernel_rfl) (by kernel_rfl) (by kernel_rfl) (by kernel_rfl)
    · have e := byB_eq _ _ h
      subst e
      exact conc_ok (fn := Tryz.f62) (calls := callCons 87 c_marker_ReadUint (callCons 88 c_marker_Known callNil)) (goodCons h1 (goodCons h2 goodNil)) (by kernel_rfl) (by kernel_rfl) (by kernel_rfl) (by kernel_rfl)
  · cases hp
theorem good_stream_readMain (h1 : G_marker_Read) : G_stream_readMain := goodHook1 fun l hp => by
  unfold hp_stream_readMain at hp
  split at hp
  · rename_i x0
    unfold pre_stream_readMain at hp
    simp only [Bool.or_eq_true] at hp
    obtain h | h := hp <;> (have e := byB_eq _ _ h) <;> subst e <;>
      exact conc_ok (fn := Tryz.f58) (calls := callCons 62 c_marker_Read callNil) (goodCons h1 goodNil) (by kernel_rfl) (by kernel_rfl) (by kernel_rfl) (by kernel_rfl)
  · cases hp
theorem good_stream_Parse (h1 : G_stream_readMain) : G_stream_Parse := goodHook1 fun l hp => by
  unfold hp_stream_Parse at hp
  split at hp
  · rename_i x0
    unfold pre_stream_Parse at hp
    simp only [Bool.or_eq_true] at hp
    obtain h | h := hp <;> (have e := byB_eq _ _ h) <;> subst e <;>
      exact conc_ok (fn := Tryz.f33) (calls := callCons 58 c_stream_readMain callNil) (goodCons h1 goodNil) (by kernel_rfl) (by kernel_rfl) (by kernel_rfl) (by kernel_rfl)
  · cases hp
theorem drel_nil {w : World} {A : Nat → Prop} {sh sh' : List CK} {x : Value} (h : DRel w A (.data sh []) x) : DRel w A (.data sh' []) x := by
  cases h with
  | none => exact .none ..
  | data => exact .none ..
theorem FunOK.nil {P : Program} {f : Nat} {sh sh' : List CK} {v : V} (h : FunOK P f [.data sh []] v) : FunOK P f [.data sh' []] v :=
  ⟨h.1, fun w A vals hA hl hv => h.2 w A vals hA hl fun i u x h1 h2 => by
    match i, h1 with
    | 0, h1 =>
      cases h1
      exact drel_nil (hv 0 _ x rfl h2)⟩
theorem good_crop_pair (h1 : G_stream_Parse) : G_crop_pair := goodHook1 fun l hp => by
  unfold hp_crop_pair at hp
  split at hp
  · rename_i x0 x1
    unfold pre_crop_pair at hp
    simp only [Bool.and_eq_true] at hp
    have e := byB_eq _ _ hp.1
    subst e
    have e := byB_eq _ _ hp.2
    subst e
    exact conc_ok (fn := Tryz.f51) (calls := callCons 33 c_stream_Parse callNil) (goodCons h1 goodNil) (by kernel_rfl) (by kernel_rfl) (by kernel_rfl) (by kernel_rfl)
  · cases hp
theorem good_crop_Join (h1 : G_crop_pair) : G_crop_Join := goodHook1 fun l hp => by
  unfold hp_crop_Join at hp
  split at hp
  · rename_i x0 x1
    unfold pre_crop_Join at hp
    simp only [Bool.and_eq_true] at hp
    have e := byB_eq _ _ hp.1
    subst e
    have e := byB_eq _ _ hp.2
    subst e
    exact conc_ok (fn := Tryz.f23) (calls := callCons 51 c_crop_pair callNil) (goodCons h1 goodNil) (by kernel_rfl) (by kernel_rfl) (by kernel_rfl) (by kernel_rfl)
  · cases hp
theorem good_crop_Replace (h1 : G_crop_pair) : G_crop_Replace := goodHook1 fun l hp => by
  unfold hp_crop_Replace at hp
  split at hp
  · rename_i x0 x1 x2
    unfold pre_crop_Replace at hp
    simp only [Bool.and_eq_true] at hp
    have e := byB_eq _ _ hp.1
    subst e
    have e := byB_eq _ _ hp.2
    subst e
    exact conc_ok (fn := Tryz.f24) (calls := callCons 51 c_crop_pair callNil) (goodCons h1 goodNil) (by kernel_rfl) (by kernel_rfl) (by kernel_rfl) (by kernel_rfl)
  · cases hp
end Go.Vm
