/- A part of this claim: what its theorem leans on. -/
import Derived.Test.YtekpofpgkokoiaaDoorProg
import Derived.Test.YtekpofpgkokoiaaDoorZH3
import Derived.Test.YtekpofpgkokoiaaDoorZWWords
import Derived.Test.YtekpofpgkokoiaaDoorZWLast
import Derived.Test.YtekpofpgkokoiaaDoorZWTab
import Derived.Test.YtekpofpgkokoiaaDoorZWApart
import Derived.Test.YtekpofpgkokoiaaDoorZWFoot
import Derived.Test.YtekpofpgkokoiaaDoorZWKept
import Derived.Test.YtekpofpgkokoiaaDoorZWShare
import Derived.Test.YtekpofpgkokoiaaDoorZWN
import Derived.Test.YtekpofpgkokoiaaDoorZWRepsOne
import Derived.Test.YtekpofpgkokoiaaDoorZWGuard
import Derived.Test.YtekpofpgkokoiaaDoorZWMore
namespace Go.Proofs.YtekpofpgkokoiaaDoor.Q
open Go.RowKit Go.Proofs.YtekpofpgkokoiaaDoor.M Go.Proofs.YtekpofpgkokoiaaDoorW.PrintWords Go.Proofs.YtekpofpgkokoiaaDoorW.PrintLast Go.Proofs.YtekpofpgkokoiaaDoorW.PrintMore
attribute [local go_sem] max2_int min2_int max_two min_two max_three min_three max_four min_four
set_option linter.unusedVariables false
set_option linter.unusedSimpArgs false
def errW : Option Int → Value
  | none => .nilIface
  | some c => .iface 0 (.int .i64 c)
theorem errW_none : errW none = .nilIface := rfl
theorem errW_some (c : Int) : errW (some c) = .iface 0 (.int .i64 c) := rfl
theorem info3 : (Tryd.prog.info? 3).map (fun i => (i.zero, i.size, i.bytes)) = some (some (.int .i64 0), 1, 8) := by kernel_rfl
theorem infoV : (Tryd.prog.info? 25).map (fun i => (i.zero, i.size, i.bytes)) = some (some (.agg #[(.int .i64 0), (.int .u64 0), (.string ⟨#[]⟩), (.slice none 0 0)]), 4, 56) := by kernel_rfl
structure Fr where
  type : Int
  channel : Int
  ext : ByteArray
  values : (List Vl)
structure Fo where
  v : Vl
  kids : (List Fo)
  element : Int
  inner : Int
end Go.Proofs.YtekpofpgkokoiaaDoor.Q
