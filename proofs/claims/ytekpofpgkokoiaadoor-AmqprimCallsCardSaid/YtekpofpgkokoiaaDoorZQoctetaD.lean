/- A part of this claim: what its theorem leans on. -/
import Derived.Test.YtekpofpgkokoiaaDoorZQ0
namespace Go.Proofs.YtekpofpgkokoiaaDoor.Q
open Go.RowKit Go.Proofs.YtekpofpgkokoiaaDoor.M Go.Proofs.YtekpofpgkokoiaaDoorW.PrintWords Go.Proofs.YtekpofpgkokoiaaDoorW.PrintLast Go.Proofs.YtekpofpgkokoiaaDoorW.PrintMore
attribute [local go_sem] max2_int min2_int max_two min_two max_three min_three max_four min_four
set_option linter.unusedVariables false
set_option linter.unusedSimpArgs false
def octet_New.f (a0 : ByteArray) : Option (ByteArray × Int × Int) := some (a0, 0, 0)
def octet_Cursor_ready.f (s0_0 : ByteArray) (s0_1 : Int) (s0_2 : Int) : Option (Bool × ByteArray × Int × Int) := some ((s0_2 == 0), s0_0, s0_1, s0_2)
def octet_Cursor_has.f (s0_0 : ByteArray) (s0_1 : Int) (s0_2 : Int) (a1 : Int) : Option (Bool × ByteArray × Int × Int) := if a1 ≥ 0 then (some (decide (a1 ≤ (wrap64 ((s0_0.size : Int) - s0_1))), s0_0, s0_1, s0_2)) else (some (false, s0_0, s0_1, s0_2))
def octet_Cursor_Take.f (s0_0 : ByteArray) (s0_1 : Int) (s0_2 : Int) (a1 : Int) : Option (ByteArray × ByteArray × Int × Int) := (octet_Cursor_ready.f s0_0 s0_1 s0_2).bind fun bt564 => (if bt564.1 = true then ((octet_Cursor_has.f bt564.2.1 bt564.2.2.1 bt564.2.2.2 a1).bind fun bt568 => (if bt568.1 = true then (if 0 ≤ bt568.2.2.1 then (if bt568.2.2.1 ≤ (wrap64 (bt568.2.2.1 + a1)) then (if (wrap64 (bt568.2.2.1 + a1)) ≤ (bt568.2.1.size : Int) then (some (bt568.2.1.extract (bt568.2.2.1 : Int).toNat ((wrap64 (bt568.2.2.1 + a1)) : Int).toNat, bt568.2.1, wrap64 (bt568.2.2.1 + a1), bt568.2.2.2)) else (none)) else (none)) else (none)) else (some ((⟨#[]⟩ : ByteArray), bt568.2.1, bt568.2.2.1, 3)))) else (some ((⟨#[]⟩ : ByteArray), bt564.2.1, bt564.2.2.1, bt564.2.2.2)))
mutual
def octet_Get.j0 : Nat → ByteArray → Option (Int)
  | 0, _ => none
  | k + 1, x0 => octet_Get.l0 k x0 0 (x0.size : Int) 0
def octet_Get.l0 : Nat → ByteArray → Int → Int → Int → Option (Int)
  | 0, _, _, _, _ => none
  | k + 1, x0, x3, x14, x15 => if x15 < x14 then (if 0 ≤ x15 then (if x15 < (x0.size : Int) then (octet_Get.l0 k x0 (Go.bits .or .u64 (IntKind.u64.wrap (x3 * 256)) (IntKind.u64.wrap (bt x0 x15))) x14 (wrap64 (x15 + 1))) else (none)) else (none)) else (some x3)
end
def octet_Get.f (k : Nat) (a0 : ByteArray) : Option (Int) := if (a0.size : Int) > 8 then (if 0 ≤ (wrap64 ((a0.size : Int) - 8)) then (if (wrap64 ((a0.size : Int) - 8)) ≤ (a0.size : Int) then (octet_Get.j0 k (a0.extract ((wrap64 ((a0.size : Int) - 8)) : Int).toNat a0.size)) else (none)) else (none)) else (octet_Get.j0 k a0)
def octet_Cursor_Number.f (k : Nat) (s0_0 : ByteArray) (s0_1 : Int) (s0_2 : Int) (a1 : Int) : Option (Int × ByteArray × Int × Int) := (octet_Cursor_Take.f s0_0 s0_1 s0_2 a1).bind fun bt572 => ((octet_Get.f k bt572.1).bind fun t576 => (some (t576, bt572.2.1, bt572.2.2.1, bt572.2.2.2)))
def octet_Cursor_Rest.f (s0_0 : ByteArray) (s0_1 : Int) (s0_2 : Int) : Option (ByteArray × ByteArray × Int × Int) := if 0 ≤ s0_1 then (if s0_1 ≤ (s0_0.size : Int) then (some (s0_0.extract (s0_1 : Int).toNat s0_0.size, s0_0, s0_1, s0_2)) else (none)) else (none)
def octet_Cursor_Left.f (s0_0 : ByteArray) (s0_1 : Int) (s0_2 : Int) : Option (Int × ByteArray × Int × Int) := (octet_Cursor_Rest.f s0_0 s0_1 s0_2).bind fun bt577 => (some ((bt577.1.size : Int), bt577.2.1, bt577.2.2.1, bt577.2.2.2))
def octet_Cursor_Err.f (s0_0 : ByteArray) (s0_1 : Int) (s0_2 : Int) : Option (Int × ByteArray × Int × Int) := some (s0_2, s0_0, s0_1, s0_2)
def octet_Cursor_At.f (s0_0 : ByteArray) (s0_1 : Int) (s0_2 : Int) : Option (Int × ByteArray × Int × Int) := some (s0_1, s0_0, s0_1, s0_2)
end Go.Proofs.YtekpofpgkokoiaaDoor.Q
