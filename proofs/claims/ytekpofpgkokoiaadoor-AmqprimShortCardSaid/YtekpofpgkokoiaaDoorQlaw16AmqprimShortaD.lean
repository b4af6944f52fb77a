-- PRINTED by print.py (a twelfth state) out of the translation. Not trusted: Lean checks it.
import Derived.Test.YtekpofpgkokoiaaDoorQ0
import Derived.Test.YtekpofpgkokoiaaDoorQpolyglotkitaD
import Derived.Test.YtekpofpgkokoiaaDoorQlaw16livesaD
import Derived.Test.YtekpofpgkokoiaaDoorQamqprimaD
namespace Go.Proofs.YtekpofpgkokoiaaDoor.Q
open Go.RowKit Go.Proofs.YtekpofpgkokoiaaDoor.M Go.Proofs.YtekpofpgkokoiaaDoorW.PrintWords Go.Proofs.YtekpofpgkokoiaaDoorW.PrintLast Go.Proofs.YtekpofpgkokoiaaDoorW.PrintMore
attribute [local go_sem] max2_int min2_int max_two min_two max_three min_three max_four min_four   -- for this text's walks alone
set_option linter.unusedVariables false
set_option linter.unusedSimpArgs false

def polyglotlaw16_AmqprimShort.f (k : Nat) (a0_0 : Int) (a0_1 : Int) (a0_2 : ByteArray) (l0_3 : List (Vl)) (a1 : Int) : Option (Bool) := (polyglotlaw16_lives.f).bind fun t1033 => (if t1033 = true then ((polyglotkit_LightValue.f k a0_0 a0_1 a0_2 l0_3).bind fun t1034 => (if t1034 = true then ((amqprim_Least.f a0_0 a0_1 a0_2 l0_3).bind fun bt1035 => (if bt1035.2 = 0 then ((amqprim_Put.f bt1035.1 a0_0 a0_1 a0_2 l0_3).bind fun bt1037 => (if bt1037.2 = 0 then (if (bt1037.1.size : Int) = 0 then (some true) else ((polyglotkit_Pick.f a1 (bt1037.1.size : Int)).bind fun t1039 => (if 0 ≤ t1039 then (if t1039 ≤ (bt1037.1.size : Int) then ((amqprim_Get.f k bt1035.1 (bt1037.1.extract 0 (t1039 : Int).toNat)).bind fun bt1040 => (if bt1040.2.2.2.2.2 = 3 then (some (bt1040.2.2.2.2.1 == 0)) else (none))) else (none)) else (none)))) else (none))) else (some (bt1035.1 == 0)))) else (some true))) else (none))
theorem polyglotlaw16_AmqprimShort.mono : ∀ a0 a1 a2 a3 a4 k, LeO (polyglotlaw16_AmqprimShort.f k a0 a1 a2 a3 a4) (polyglotlaw16_AmqprimShort.f (k + 1) a0 a1 a2 a3 a4) := by
  intro a0 a1 a2 a3 a4 k
  unfold polyglotlaw16_AmqprimShort.f
  repeat' first
      | (with_reducible exact amqprim_Get.mono _ _ _)
      | (with_reducible exact polyglotkit_LightValue.mono _ _ _ _ _)
      | (with_reducible exact LeO.refl _)
      | (with_reducible exact LeO.none _)
      | (with_reducible refine LeO.ite ?_ ?_)
      | (with_reducible refine LeO.bind ?_ (fun _ => ?_))
      | exact amqprim_Get.mono _ _ _
      | exact polyglotkit_LightValue.mono _ _ _ _ _
      | exact LeO.none _
      | refine LeO.ite ?_ ?_
      | refine LeO.bind ?_ (fun _ => ?_)
end Go.Proofs.YtekpofpgkokoiaaDoor.Q
