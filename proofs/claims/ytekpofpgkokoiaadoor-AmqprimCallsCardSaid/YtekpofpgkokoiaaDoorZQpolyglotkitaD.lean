/- A part of this claim: what its theorem leans on. -/
import Derived.Test.YtekpofpgkokoiaaDoorZQ0
namespace Go.Proofs.YtekpofpgkokoiaaDoor.Q
open Go.RowKit Go.Proofs.YtekpofpgkokoiaaDoor.M Go.Proofs.YtekpofpgkokoiaaDoorW.PrintWords Go.Proofs.YtekpofpgkokoiaaDoorW.PrintLast Go.Proofs.YtekpofpgkokoiaaDoorW.PrintMore
attribute [local go_sem] max2_int min2_int max_two min_two max_three min_three max_four min_four
set_option linter.unusedVariables false
set_option linter.unusedSimpArgs false
def polyglotkit_N.f (a0 : Int) (a1 : Int) : Option (Int × Int × ByteArray × (List (Vl))) := some (a0, a1, (⟨#[]⟩ : ByteArray), ([] : List (Vl)))
mutual
def polyglotkit_nodes.j0 : Nat → Int → Int → Bool → Int → Int → ByteArray → List (Vl) → Option (Int)
  | 0, _, _, _, _, _, _, _ => none
  | k + 1, x1, x2, x23, x127000, x127001, x127002, x127003 => if x23 = true then (some (wrap64 (x2 + 1))) else (polyglotkit_nodes.l0 k x1 x2 1 0 x127000 x127001 x127002 x127003)
def polyglotkit_nodes.l0 : Nat → Int → Int → Int → Int → Int → Int → ByteArray → List (Vl) → Option (Int)
  | 0, _, _, _, _, _, _, _, _ => none
  | k + 1, x1, x2, x7, x8, x127000, x127001, x127002, x127003 => if x8 < (x127003.length : Int) then (if x7 ≤ x2 then (if 0 ≤ x8 then ((polyglotkit_nodes.f k ((rdV x127003 x8).kind) ((rdV x127003 x8).n) ((rdV x127003 x8).text) ((rdV x127003 x8).items) (wrap64 (x1 - 1)) (wrap64 (x2 - x7))).bind fun t128 => (polyglotkit_nodes.l0 k x1 x2 (wrap64 (x7 + t128)) (wrap64 (x8 + 1)) x127000 x127001 x127002 x127003)) else (none)) else (some x7)) else (some x7)
def polyglotkit_nodes.f : Nat → Int → Int → ByteArray → List (Vl) → Int → Int → Option (Int)
  | 0, _, _, _, _, _, _ => none
  | k + 1, a0_0, a0_1, a0_2, l0_3, a1, a2 => if a1 < 0 then (polyglotkit_nodes.j0 k a1 a2 true a0_0 a0_1 a0_2 l0_3) else (if (l0_3.length : Int) > a2 then (polyglotkit_nodes.j0 k a1 a2 true a0_0 a0_1 a0_2 l0_3) else (polyglotkit_nodes.j0 k a1 a2 (decide ((a0_2.size : Int) > 400)) a0_0 a0_1 a0_2 l0_3))
end
def polyglotkit_LightValue.f (k : Nat) (a0_0 : Int) (a0_1 : Int) (a0_2 : ByteArray) (l0_3 : List (Vl)) : Option (Bool) := (polyglotkit_nodes.f k a0_0 a0_1 a0_2 l0_3 6 40).bind fun t130 => (some (decide (t130 ≤ 40)))
end Go.Proofs.YtekpofpgkokoiaaDoor.Q
