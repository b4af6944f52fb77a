/- A part of this claim: what its theorem leans on. -/
import Derived.Test.YtekpofpgkokoiaaDoorZQ0
namespace Go.Proofs.YtekpofpgkokoiaaDoor.Q
open Go.RowKit Go.Proofs.YtekpofpgkokoiaaDoor.M Go.Proofs.YtekpofpgkokoiaaDoorW.PrintWords Go.Proofs.YtekpofpgkokoiaaDoorW.PrintLast Go.Proofs.YtekpofpgkokoiaaDoorW.PrintMore
attribute [local go_sem] max2_int min2_int max_two min_two max_three min_three max_four min_four
set_option linter.unusedVariables false
set_option linter.unusedSimpArgs false
def polyglotkit_N.f (a0 : Int) (a1 : Int) : Option (Int × Int × ByteArray × (List (Vl))) := some (a0, a1, (⟨#[]⟩ : ByteArray), ([] : List (Vl)))
def polyglotkit_Pick.f (a0 : Int) (a1 : Int) : Option (Int) := if a1 < 1 then (some 0) else (if a1 = 0 then (none) else (if (Int.tmod a0 a1) < 0 then (some (wrap64 ((Int.tmod a0 a1) + a1))) else (some (Int.tmod a0 a1))))
def polyglotkit_L.f (l0 : List (Vl)) : Option (Int × Int × ByteArray × (List (Vl))) := some (22, 0, (⟨#[]⟩ : ByteArray), l0)
end Go.Proofs.YtekpofpgkokoiaaDoor.Q
