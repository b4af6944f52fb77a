/- A part of this claim: what its theorem leans on. -/
import Derived.Test.YtekpofpgkokoiaaDoorZQ0
section
namespace Go.Proofs.YtekpofpgkokoiaaDoor.Q
open Go.RowKit Go.Proofs.YtekpofpgkokoiaaDoor.M Go.Proofs.YtekpofpgkokoiaaDoorW.PrintWords Go.Proofs.YtekpofpgkokoiaaDoorW.PrintLast Go.Proofs.YtekpofpgkokoiaaDoorW.PrintMore
attribute [local go_sem] max2_int min2_int max_two min_two max_three min_three max_four min_four
set_option linter.unusedVariables false
set_option linter.unusedSimpArgs false
def polyglotref16_Big.l0 : Nat → Int → Int → ByteArray → Int → Option (ByteArray)
  | 0, _, _, _, _ => none
  | k + 1, x0, x1, x5, x6 => if x6 < x1 then ((some (([(x0) % 256] : List Int) : List Int)).bind fun y395 => (if (strOfNums y395).size + x5.size ≤ 9223372036854775807 then (polyglotref16_Big.l0 k (x0 / 256) x1 ((strOfNums y395) ++ x5) (wrap64 (x6 + 1))) else (none))) else (some x5)
def polyglotref16_Big.f (k : Nat) (a0 : Int) (a1 : Int) : Option (ByteArray) := polyglotref16_Big.l0 k a0 a1 (⟨#[]⟩ : ByteArray) 0
def polyglotref16_Number.l0 : Nat → ByteArray → Int → Int → Option (Int)
  | 0, _, _, _ => none
  | k + 1, x0, x3, x4 => if x4 < (x0.size : Int) then (if 0 ≤ x4 then (polyglotref16_Number.l0 k x0 (Go.bits .or .u64 (IntKind.u64.wrap (x3 * 256)) (IntKind.u64.wrap (bt x0 x4))) (wrap64 (x4 + 1))) else (none)) else (some x3)
def polyglotref16_Number.f (k : Nat) (a0 : ByteArray) : Option (Int) := polyglotref16_Number.l0 k a0 0 0
end Go.Proofs.YtekpofpgkokoiaaDoor.Q
end
section
namespace Go.Proofs.YtekpofpgkokoiaaDoor.Q
open Go.RowKit Go.Proofs.YtekpofpgkokoiaaDoor.M Go.Proofs.YtekpofpgkokoiaaDoorW.PrintWords Go.Proofs.YtekpofpgkokoiaaDoorW.PrintLast Go.Proofs.YtekpofpgkokoiaaDoorW.PrintMore
attribute [local go_sem] max2_int min2_int max_two min_two max_three min_three max_four min_four
set_option linter.unusedVariables false
set_option linter.unusedSimpArgs false
mutual
def polyglotkit_OwnValue.l0 : Nat → Int → Int → Int → ByteArray → List (Vl) → Int → Int → ByteArray → List (Vl) → Option (Int × Int × ByteArray × (List (Vl)))
  | 0, _, _, _, _, _, _, _, _, _ => none
  | k + 1, x4, x894000, x894001, x894002, x894003, x896000, x896001, x896002, x896003 => if x4 < (x894003.length : Int) then (if 0 ≤ x4 then ((polyglotkit_OwnValue.f k ((rdV x894003 x4).kind) ((rdV x894003 x4).n) ((rdV x894003 x4).text) ((rdV x894003 x4).items)).bind fun bt897 => (if x896003.length < 2513169434916 then (polyglotkit_OwnValue.l0 k (wrap64 (x4 + 1)) x894000 x894001 x894002 x894003 x896000 x896001 x896002 (x896003 ++ [(⟨bt897.1, bt897.2.1, bt897.2.2.1, bt897.2.2.2⟩ : Vl)])) else (none))) else (none)) else (some (x896000, x896001, x896002, x896003))
def polyglotkit_OwnValue.f : Nat → Int → Int → ByteArray → List (Vl) → Option (Int × Int × ByteArray × (List (Vl)))
  | 0, _, _, _, _ => none
  | k + 1, a0_0, a0_1, a0_2, l0_3 => polyglotkit_OwnValue.l0 k 0 a0_0 a0_1 a0_2 l0_3 a0_0 a0_1 a0_2 ([] : List (Vl))
end
end Go.Proofs.YtekpofpgkokoiaaDoor.Q
end
