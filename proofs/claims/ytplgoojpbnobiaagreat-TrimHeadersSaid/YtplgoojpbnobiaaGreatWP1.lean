import Derived.Test.YtplgoojpbnobiaaGreatWA
import Derived.Test.YtplgoojpbnobiaaGreatWG0
import Derived.Test.YtplgoojpbnobiaaGreatWG1
import Derived.Test.YtplgoojpbnobiaaGreatWG2
import Derived.Test.YtplgoojpbnobiaaGreatWG3
set_option linter.unusedVariables false
set_option linter.unusedSimpArgs false
set_option maxRecDepth 100000
noncomputable section
namespace Go.Vm
open Go.Proofs
theorem good_params_within : G_params_within := mk_params_within fun lo hi l hp hr => by
  have hl : l.length ≤ 1048576 := Nat.le_of_ble_eq_true hp
  have h := loop_all (a := 0) (b := (l.length : Int)) (L := fun n i => loop_params_within_0 lo hi l (l.length : Int) n i (fun _ => some (V.bool true)) some)
    (ok := fun i => inB lo hi (V.toInt (List.getD (l.getD i.toNat []) 0 V.undef))) (e := some (V.bool true)) (x := some (V.bool false))
    (fun n i h0 hi' hok => by
      show step_params_within_0 lo hi l (l.length : Int) i (fun y => loop_params_within_0 lo hi l (l.length : Int) n y (fun _ => some (V.bool true)) some) _ _ = _
      unfold step_params_within_0
      simp only [decide_eq_true hi', cond_true, inR_of h0 hi', inB_t hok, cond_false]
      rw [w64 (by omega) (by omega)])
    (fun n i h0 hi' hok => by
      show step_params_within_0 lo hi l (l.length : Int) i (fun y => loop_params_within_0 lo hi l (l.length : Int) n y (fun _ => some (V.bool true)) some) _ _ = _
      unfold step_params_within_0
      simp only [decide_eq_true hi', cond_true, inR_of h0 hi', inB_f hok, cond_false])
    (fun n i h0 hi' => by
      show step_params_within_0 lo hi l (l.length : Int) i (fun y => loop_params_within_0 lo hi l (l.length : Int) n y (fun _ => some (V.bool true)) some) _ _ = _
      unfold step_params_within_0
      simp only [decide_eq_false hi', cond_false])
    (fuel_params_within_0 lo hi l (l.length : Int) 0) (Nat.le_refl _)
  refine Eq.trans h ?_
  rw [rng_all (fun w => inB lo hi (V.toInt (List.getD w 0 V.undef)))]
  show _ = some (V.bool (l.all fun w => inB lo hi (V.toInt (List.getD w 0 V.undef))))
  cases l.all fun w => inB lo hi (V.toInt (List.getD w 0 V.undef)) <;> rfl
end Go.Vm
