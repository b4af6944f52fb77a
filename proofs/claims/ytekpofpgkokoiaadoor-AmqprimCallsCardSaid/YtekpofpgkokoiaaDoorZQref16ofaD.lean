/- A part of this claim: what its theorem leans on. -/
import Derived.Test.YtekpofpgkokoiaaDoorZQ0
namespace Go.Proofs.YtekpofpgkokoiaaDoor.Q
open Go.RowKit Go.Proofs.YtekpofpgkokoiaaDoor.M Go.Proofs.YtekpofpgkokoiaaDoorW.PrintWords Go.Proofs.YtekpofpgkokoiaaDoorW.PrintLast Go.Proofs.YtekpofpgkokoiaaDoorW.PrintMore
attribute [local go_sem] max2_int min2_int max_two min_two max_three min_three max_four min_four
set_option linter.unusedVariables false
set_option linter.unusedSimpArgs false
def polyglotref16_Codes.l0 : Nat → Int → List Int → List (Ct) → Int → Option (List Int)
  | 0, _, _, _, _ => none
  | k + 1, x0, x3, x4, x5 => if x5 < (x4.length : Int) then (if 0 ≤ x5 then (if ((rdC x4 x5).kind) = x0 then (if x3.length < 17592186044416 then (polyglotref16_Codes.l0 k x0 (x3 ++ [(rdC x4 x5).code]) x4 (wrap64 (x5 + 1))) else (none)) else (polyglotref16_Codes.l0 k x0 x3 x4 (wrap64 (x5 + 1)))) else (none)) else (some x3)
def polyglotref16_Codes.f (k : Nat) (a0 : Int) : Option (List Int) := (polyglotref16_table.f).bind fun t353 => (polyglotref16_Codes.l0 k a0 ([] : List Int) t353 0)
def polyglotref16_Of.l0 : Nat → Int → List (Ct) → Int → Option (Int × Int × Int × Bool × Bool × Bool)
  | 0, _, _, _ => none
  | k + 1, x0, x4, x5 => if x5 < (x4.length : Int) then (if 0 ≤ x5 then (if ((rdC x4 x5).code) = x0 then (some ((rdC x4 x5).code, (rdC x4 x5).kind, (rdC x4 x5).width, (rdC x4 x5).sized, (rdC x4 x5).items, true)) else (polyglotref16_Of.l0 k x0 x4 (wrap64 (x5 + 1)))) else (none)) else (some (0, 0, 0, false, false, false))
def polyglotref16_Of.f (k : Nat) (a0 : Int) : Option (Int × Int × Int × Bool × Bool × Bool) := (polyglotref16_table.f).bind fun t362 => (polyglotref16_Of.l0 k a0 t362 0)
end Go.Proofs.YtekpofpgkokoiaaDoor.Q
