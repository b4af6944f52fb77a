/- A part of this claim: what its theorem leans on. -/
import Derived.Test.YtekpofpgkokoiaaDoorZQ0
import Derived.Test.YtekpofpgkokoiaaDoorZQoctetaD
namespace Go.Proofs.YtekpofpgkokoiaaDoor.Q
open Go.RowKit Go.Proofs.YtekpofpgkokoiaaDoor.M Go.Proofs.YtekpofpgkokoiaaDoorW.PrintWords Go.Proofs.YtekpofpgkokoiaaDoorW.PrintLast Go.Proofs.YtekpofpgkokoiaaDoorW.PrintMore
attribute [local go_sem] max2_int min2_int max_two min_two max_three min_three max_four min_four
set_option linter.unusedVariables false
set_option linter.unusedSimpArgs false
mutual
def amqprim_bits.j0 : Nat → Int → Bool → Option (Int × Bool)
  | 0, _, _ => none
  | k + 1, x4, x11 => if x11 = true then (some (32, false)) else (if x4 = 6 then (amqprim_bits.j1 k x4 (x4 == 6)) else (if x4 = 12 then (amqprim_bits.j1 k x4 (x4 == 12)) else (amqprim_bits.j1 k x4 (x4 == 14))))
def amqprim_bits.j1 : Nat → Int → Bool → Option (Int × Bool)
  | 0, _, _ => none
  | k + 1, x4, x16 => if x16 = true then (some (64, false)) else (if x4 = 7 then (some (8, true)) else (if x4 = 8 then (some (16, true)) else (if x4 = 9 then (some (32, true)) else (if x4 = 10 then (some (64, true)) else (if x4 = 17 then (some (64, true)) else (some (0, false)))))))
end
def amqprim_bits.f (k : Nat) (a0 : Int) : Option (Int × Bool) := if a0 = 2 then (some (1, false)) else (if a0 = 3 then (some (8, false)) else (if a0 = 4 then (some (16, false)) else (if a0 = 5 then (amqprim_bits.j0 k a0 (a0 == 5)) else (if a0 = 11 then (amqprim_bits.j0 k a0 (a0 == 11)) else (if a0 = 13 then (amqprim_bits.j0 k a0 (a0 == 13)) else (amqprim_bits.j0 k a0 (a0 == 16)))))))
def amqprim_widen.f (k : Nat) (a0_0 : Int) (a0_1 : Int) (a0_2 : Int) (a0_3 : Bool) (a0_4 : Bool) (a1 : Int) : Option (Int) := (amqprim_bits.f k a0_1).bind fun bt582 => (if bt582.2 = true then (if a0_2 > 0 then (if 0 ≤ (wrap64 (64 - (wrap64 (8 * a0_2)))) then (some (IntKind.u64.wrap (shr .i64 (wrap64 (shl .u64 a1 (wrap64 (64 - (wrap64 (8 * a0_2)))))) (wrap64 (64 - (wrap64 (8 * a0_2))))))) else (none)) else (some a1)) else (some a1))
mutual
def amqprim_Get.j0 : Nat → ByteArray → Bool → Int → Int → ByteArray → Int → Int → Int → Bool → Bool → Option (Int × Int × ByteArray × (List (Vl)) × Int × Int)
  | 0, _, _, _, _, _, _, _, _, _, _ => none
  | k + 1, x1, x21, x585000, x585001, x585002, x592000, x592001, x592002, x592003, x592004 => if x21 = true then (some (0, 0, (⟨#[]⟩ : ByteArray), ([] : List (Vl)), 0, 8)) else ((octet_New.f x1).bind fun bt592 => (if x592003 = true then ((octet_Cursor_Number.f k bt592.1 bt592.2.1 bt592.2.2 x592002).bind fun bt596 => ((octet_Cursor_Left.f bt596.2.1 bt596.2.2.1 bt596.2.2.2).bind fun bt600 => (if bt596.1 > (IntKind.u64.wrap (bt600.1)) then (some (0, 0, (⟨#[]⟩ : ByteArray), ([] : List (Vl)), 0, 3)) else ((octet_Cursor_Take.f bt600.2.1 bt600.2.2.1 bt600.2.2.2 (wrap64 (bt596.1))).bind fun bt604 => (amqprim_Get.j1 k x592001 x585001 bt604.1 bt604.2.1 bt604.2.2.1 bt604.2.2.2))))) else (if x592002 = 16 then ((octet_Cursor_Take.f bt592.1 bt592.2.1 bt592.2.2 16).bind fun bt608 => (amqprim_Get.j1 k x592001 x585001 bt608.1 bt608.2.1 bt608.2.2.1 bt608.2.2.2)) else (if x592000 = 65 then (amqprim_Get.j1 k x592001 1 x585002 bt592.1 bt592.2.1 bt592.2.2) else ((octet_Cursor_Number.f k bt592.1 bt592.2.1 bt592.2.2 x592002).bind fun bt612 => ((amqprim_widen.f k x592000 x592001 x592002 x592003 x592004 bt612.1).bind fun t616 => (amqprim_Get.j1 k x592001 t616 x585002 bt612.2.1 bt612.2.2.1 bt612.2.2.2)))))))
def amqprim_Get.j1 : Nat → Int → Int → ByteArray → ByteArray → Int → Int → Option (Int × Int × ByteArray × (List (Vl)) × Int × Int)
  | 0, _, _, _, _, _, _ => none
  | k + 1, x585000, x585001, x585002, x596000, x596001, x596002 => (octet_Cursor_Err.f x596000 x596001 x596002).bind fun bt617 => (if bt617.1 = 0 then ((amqprim_Check.f x585000 x585001 x585002 ([] : List (Vl))).bind fun t625 => (if t625 = 0 then ((octet_Cursor_At.f bt617.2.1 bt617.2.2.1 bt617.2.2.2).bind fun bt626 => (some (x585000, x585001, x585002, ([] : List (Vl)), bt626.1, 0))) else (if t625 = 2 then (some (0, 0, (⟨#[]⟩ : ByteArray), ([] : List (Vl)), 0, 5)) else (some (0, 0, (⟨#[]⟩ : ByteArray), ([] : List (Vl)), 0, t625))))) else ((octet_Cursor_Err.f bt617.2.1 bt617.2.2.1 bt617.2.2.2).bind fun bt621 => (some (0, 0, (⟨#[]⟩ : ByteArray), ([] : List (Vl)), 0, bt621.1))))
end
def amqprim_Get.f (k : Nat) (a0 : Int) (a1 : ByteArray) : Option (Int × Int × ByteArray × (List (Vl)) × Int × Int) := (amqprim_Of.f a0).bind fun bt585 => (if bt585.2.2.2.2.2 = true then (amqprim_Get.j0 k a1 bt585.2.2.2.2.1 0 0 (⟨#[]⟩ : ByteArray) bt585.1 bt585.2.1 bt585.2.2.1 bt585.2.2.2.1 bt585.2.2.2.2.1) else (amqprim_Get.j0 k a1 true 0 0 (⟨#[]⟩ : ByteArray) bt585.1 bt585.2.1 bt585.2.2.1 bt585.2.2.2.1 bt585.2.2.2.2.1))
end Go.Proofs.YtekpofpgkokoiaaDoor.Q
