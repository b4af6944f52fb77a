/- A part of this claim: what its theorem leans on. -/
import Derived.Test.YtekpofpgkokoiaaDoorZQ0
import Derived.Test.YtekpofpgkokoiaaDoorZQpolyglotkitaD
section
namespace Go.Proofs.YtekpofpgkokoiaaDoor.Q
open Go.RowKit Go.Proofs.YtekpofpgkokoiaaDoor.M Go.Proofs.YtekpofpgkokoiaaDoorW.PrintWords Go.Proofs.YtekpofpgkokoiaaDoorW.PrintLast Go.Proofs.YtekpofpgkokoiaaDoorW.PrintMore
attribute [local go_sem] max2_int min2_int max_two min_two max_three min_three max_four min_four
set_option linter.unusedVariables false
set_option linter.unusedSimpArgs false
def polyglotlaw16_lives.f  : Option (Bool) := (polyglotkit_N.f 5 0).bind fun bt102 => ((amqprim_Least.f bt102.1 bt102.2.1 bt102.2.2.1 bt102.2.2.2).bind fun bt108 => ((polyglotkit_N.f 5 200).bind fun bt110 => ((amqprim_Least.f bt110.1 bt110.2.1 bt110.2.2.1 bt110.2.2.2).bind fun bt116 => ((polyglotkit_N.f 5 300).bind fun bt118 => ((amqprim_Put.f 112 bt118.1 bt118.2.1 bt118.2.2.1 bt118.2.2.2).bind fun bt124 => (if bt108.2 = 0 then (if bt116.2 = 0 then (if bt124.2 = 0 then (if bt108.1 = 67 then (if bt116.1 = 82 then (some (bt124.1.toList == ([0, 0, 1, 44] : List UInt8))) else (none)) else (none)) else (none)) else (none)) else (none)))))))
end Go.Proofs.YtekpofpgkokoiaaDoor.Q
end
section
namespace Go.Proofs.YtekpofpgkokoiaaDoor.Q
open Go.RowKit Go.Proofs.YtekpofpgkokoiaaDoor.M Go.Proofs.YtekpofpgkokoiaaDoorW.PrintWords Go.Proofs.YtekpofpgkokoiaaDoorW.PrintLast Go.Proofs.YtekpofpgkokoiaaDoorW.PrintMore
attribute [local go_sem] max2_int min2_int max_two min_two max_three min_three max_four min_four
set_option linter.unusedVariables false
set_option linter.unusedSimpArgs false
def polyglotkit_Same_int.l0 : Nat → List Int → List Int → Int → Option (Bool)
  | 0, _, _, _ => none
  | k + 1, x0, x1, x5 => if x5 < (x0.length : Int) then (if 0 ≤ x5 then (if x5 < (x1.length : Int) then (if (rd x0 x5) = (rd x1 x5) then (polyglotkit_Same_int.l0 k x0 x1 (wrap64 (x5 + 1))) else (some false)) else (none)) else (none)) else (some true)
def polyglotkit_Same_int.f (k : Nat) (l0 : List Int) (l1 : List Int) : Option (Bool) := if (l0.length : Int) = (l1.length : Int) then (polyglotkit_Same_int.l0 k l0 l1 0) else (some false)
end Go.Proofs.YtekpofpgkokoiaaDoor.Q
end
