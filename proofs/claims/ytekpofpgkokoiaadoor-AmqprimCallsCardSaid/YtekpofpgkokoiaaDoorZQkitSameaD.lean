/- A part of this claim: what its theorem leans on. -/
import Derived.Test.YtekpofpgkokoiaaDoorZQ0
namespace Go.Proofs.YtekpofpgkokoiaaDoor.Q
open Go.RowKit Go.Proofs.YtekpofpgkokoiaaDoor.M Go.Proofs.YtekpofpgkokoiaaDoorW.PrintWords Go.Proofs.YtekpofpgkokoiaaDoorW.PrintLast Go.Proofs.YtekpofpgkokoiaaDoorW.PrintMore
attribute [local go_sem] max2_int min2_int max_two min_two max_three min_three max_four min_four
set_option linter.unusedVariables false
set_option linter.unusedSimpArgs false
mutual
def polyglotkit_SameValue.j0 : Nat → Bool → Int → Int → ByteArray → List (Vl) → Int → Int → ByteArray → List (Vl) → Option (Bool)
  | 0, _, _, _, _, _, _, _, _, _ => none
  | k + 1, x33, x132000, x132001, x132002, x132003, x133000, x133001, x133002, x133003 => if x33 = true then (some false) else (polyglotkit_SameValue.l0 k 0 x132000 x132001 x132002 x132003 x133000 x133001 x133002 x133003)
def polyglotkit_SameValue.l0 : Nat → Int → Int → Int → ByteArray → List (Vl) → Int → Int → ByteArray → List (Vl) → Option (Bool)
  | 0, _, _, _, _, _, _, _, _, _ => none
  | k + 1, x5, x132000, x132001, x132002, x132003, x133000, x133001, x133002, x133003 => if x5 < (x132003.length : Int) then (if 0 ≤ x5 then (if x5 < (x133003.length : Int) then ((polyglotkit_SameValue.f k ((rdV x132003 x5).kind) ((rdV x132003 x5).n) ((rdV x132003 x5).text) ((rdV x132003 x5).items) ((rdV x133003 x5).kind) ((rdV x133003 x5).n) ((rdV x133003 x5).text) ((rdV x133003 x5).items)).bind fun t135 => (if t135 = true then (polyglotkit_SameValue.l0 k (wrap64 (x5 + 1)) x132000 x132001 x132002 x132003 x133000 x133001 x133002 x133003) else (some false))) else (none)) else (none)) else (some true)
def polyglotkit_SameValue.f : Nat → Int → Int → ByteArray → List (Vl) → Int → Int → ByteArray → List (Vl) → Option (Bool)
  | 0, _, _, _, _, _, _, _, _ => none
  | k + 1, a0_0, a0_1, a0_2, l0_3, a1_0, a1_1, a1_2, l1_3 => if a0_0 = a1_0 then (if a0_1 = a1_1 then (if a0_2.toList = a1_2.toList then (polyglotkit_SameValue.j0 k ((l0_3.length : Int) != (l1_3.length : Int)) a0_0 a0_1 a0_2 l0_3 a1_0 a1_1 a1_2 l1_3) else (polyglotkit_SameValue.j0 k true a0_0 a0_1 a0_2 l0_3 a1_0 a1_1 a1_2 l1_3)) else (polyglotkit_SameValue.j0 k true a0_0 a0_1 a0_2 l0_3 a1_0 a1_1 a1_2 l1_3)) else (polyglotkit_SameValue.j0 k true a0_0 a0_1 a0_2 l0_3 a1_0 a1_1 a1_2 l1_3)
end
end Go.Proofs.YtekpofpgkokoiaaDoor.Q
