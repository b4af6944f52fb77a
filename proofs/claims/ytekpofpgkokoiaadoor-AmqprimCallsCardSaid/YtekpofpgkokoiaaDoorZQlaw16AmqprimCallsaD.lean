/- A part of this claim: what its theorem leans on. -/
import Derived.Test.YtekpofpgkokoiaaDoorZQ0
import Derived.Test.YtekpofpgkokoiaaDoorZQpolyglotkitaD
import Derived.Test.YtekpofpgkokoiaaDoorZQlaw16livesaD
import Derived.Test.YtekpofpgkokoiaaDoorZQkitSameaD
import Derived.Test.YtekpofpgkokoiaaDoorZQpolyglotref16aD
import Derived.Test.YtekpofpgkokoiaaDoorZQref16ofaD
import Derived.Test.YtekpofpgkokoiaaDoorZQamqprimaD
import Derived.Test.YtekpofpgkokoiaaDoorZQref16bigaD
namespace Go.Proofs.YtekpofpgkokoiaaDoor.Q
open Go.RowKit Go.Proofs.YtekpofpgkokoiaaDoor.M Go.Proofs.YtekpofpgkokoiaaDoorW.PrintWords Go.Proofs.YtekpofpgkokoiaaDoorW.PrintLast Go.Proofs.YtekpofpgkokoiaaDoorW.PrintMore
attribute [local go_sem] max2_int min2_int max_two min_two max_three min_three max_four min_four
set_option linter.unusedVariables false
set_option linter.unusedSimpArgs false
def polyglotlaw16_AmqprimCalls.j0 : Nat → Int → Int → ByteArray → Bool → Int → Int → ByteArray → List (Vl) → Option (Bool)
  | 0, _, _, _, _, _, _, _, _ => none
  | k + 1, x0, x2, x3, x36, x929000, x929001, x929002, x929003 => if x36 = true then (some true) else ((amqprim_Of.f x0).bind fun bt931 => ((polyglotref16_Of.f k x0).bind fun bt938 => ((polyglotkit_OwnValue.f k x929000 x929001 x929002 x929003).bind fun bt945 => ((amqprim_Least.f bt945.1 bt945.2.1 bt945.2.2.1 bt945.2.2.2).bind fun bt951 => ((polyglotref16_Least.f k x929000 x929001 x929002 x929003).bind fun bt953 => ((polyglotkit_OwnValue.f k x929000 x929001 x929002 x929003).bind fun bt955 => ((amqprim_Put.f x0 bt955.1 bt955.2.1 bt955.2.2.1 bt955.2.2.2).bind fun bt961 => ((polyglotref16_Put.f k x0 x929000 x929001 x929002 x929003).bind fun bt963 => ((amqprim_Get.f k x0 x3).bind fun bt965 => ((polyglotref16_Get.f k x0 x3).bind fun bt974 => (if (bt931.1 == bt938.1 && (bt931.2.1 == bt938.2.1 && (bt931.2.2.1 == bt938.2.2.1 && (bt931.2.2.2.1 == bt938.2.2.2.1 && (bt931.2.2.2.2.1 == bt938.2.2.2.2.1))))) = true then (if (bt931.2.2.2.2.2 == bt938.2.2.2.2.2) = true then (if bt951.1 = bt953.1 then (if bt951.2 = bt953.2 then (if bt961.1.toList = bt963.1.toList then (if bt961.2 = bt963.2 then ((polyglotkit_SameValue.f k bt965.1 bt965.2.1 bt965.2.2.1 bt965.2.2.2.1 bt974.1 bt974.2.1 bt974.2.2.1 bt974.2.2.2.1).bind fun t983 => (if t983 = true then (if bt965.2.2.2.2.1 = bt974.2.2.2.2.1 then (if bt965.2.2.2.2.2 = bt974.2.2.2.2.2 then ((amqprim_Codes.f x2).bind fun t984 => ((polyglotref16_Codes.f k x2).bind fun t987 => ((polyglotkit_Same_int.f k t984 t987).bind fun t990 => (if t990 = true then ((amqprim_Check.f x929000 x929001 x929002 x929003).bind fun t991 => ((polyglotref16_Check.f k x929000 x929001 x929002 x929003).bind fun t992 => (if t991 = t992 then ((amqprim_Fits.f x0 x929000 x929001 x929002 x929003).bind fun t993 => ((polyglotref16_Fits.f k x0 x929000 x929001 x929002 x929003).bind fun t994 => (some (t993 == t994)))) else (none)))) else (none))))) else (none)) else (none)) else (none))) else (none)) else (none)) else (none)) else (none)) else (none)) else (none))))))))))))
def polyglotlaw16_AmqprimCalls.f (k : Nat) (a0 : Int) (a1_0 : Int) (a1_1 : Int) (a1_2 : ByteArray) (l1_3 : List (Vl)) (a2 : Int) (a3 : ByteArray) : Option (Bool) := (polyglotlaw16_lives.f).bind fun t929 => (if t929 = true then ((polyglotkit_LightValue.f k a1_0 a1_1 a1_2 l1_3).bind fun t930 => (if t930 = true then (polyglotlaw16_AmqprimCalls.j0 k a0 a2 a3 (decide ((a3.size : Int) > 600)) a1_0 a1_1 a1_2 l1_3) else (polyglotlaw16_AmqprimCalls.j0 k a0 a2 a3 true a1_0 a1_1 a1_2 l1_3))) else (none))
end Go.Proofs.YtekpofpgkokoiaaDoor.Q
