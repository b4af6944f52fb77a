/- A part of this claim: what its theorem leans on. -/
import Derived.Test.YtekpofpgkokoiaaDoorZQ0
namespace Go.Proofs.YtekpofpgkokoiaaDoor.Q
open Go.RowKit Go.Proofs.YtekpofpgkokoiaaDoor.M Go.Proofs.YtekpofpgkokoiaaDoorW.PrintWords Go.Proofs.YtekpofpgkokoiaaDoorW.PrintLast Go.Proofs.YtekpofpgkokoiaaDoorW.PrintMore
attribute [local go_sem] max2_int min2_int max_two min_two max_three min_three max_four min_four
set_option linter.unusedVariables false
set_option linter.unusedSimpArgs false
mutual
def amqvalue_Same.j0 : Nat → Bool → Int → Int → ByteArray → List (Vl) → Int → Int → ByteArray → List (Vl) → Option (Bool)
  | 0, _, _, _, _, _, _, _, _, _ => none
  | k + 1, x33, x502000, x502001, x502002, x502003, x503000, x503001, x503002, x503003 => if x33 = true then (some false) else (amqvalue_Same.l0 k (x502003.length : Int) 0 x502000 x502001 x502002 x502003 x503000 x503001 x503002 x503003)
def amqvalue_Same.l0 : Nat → Int → Int → Int → Int → ByteArray → List (Vl) → Int → Int → ByteArray → List (Vl) → Option (Bool)
  | 0, _, _, _, _, _, _, _, _, _, _ => none
  | k + 1, x36, x37, x502000, x502001, x502002, x502003, x503000, x503001, x503002, x503003 => if x37 < x36 then (if 0 ≤ x37 then (if x37 < (x502003.length : Int) then (if x37 < (x503003.length : Int) then ((amqvalue_Same.f k ((rdV x502003 x37).kind) ((rdV x502003 x37).n) ((rdV x502003 x37).text) ((rdV x502003 x37).items) ((rdV x503003 x37).kind) ((rdV x503003 x37).n) ((rdV x503003 x37).text) ((rdV x503003 x37).items)).bind fun t505 => (if t505 = true then (amqvalue_Same.l0 k x36 (wrap64 (x37 + 1)) x502000 x502001 x502002 x502003 x503000 x503001 x503002 x503003) else (some false))) else (none)) else (none)) else (none)) else (some true)
def amqvalue_Same.f : Nat → Int → Int → ByteArray → List (Vl) → Int → Int → ByteArray → List (Vl) → Option (Bool)
  | 0, _, _, _, _, _, _, _, _ => none
  | k + 1, a0_0, a0_1, a0_2, l0_3, a1_0, a1_1, a1_2, l1_3 => if a0_0 = a1_0 then (if a0_1 = a1_1 then (if a0_2.toList = a1_2.toList then (amqvalue_Same.j0 k ((l0_3.length : Int) != (l1_3.length : Int)) a0_0 a0_1 a0_2 l0_3 a1_0 a1_1 a1_2 l1_3) else (amqvalue_Same.j0 k true a0_0 a0_1 a0_2 l0_3 a1_0 a1_1 a1_2 l1_3)) else (amqvalue_Same.j0 k true a0_0 a0_1 a0_2 l0_3 a1_0 a1_1 a1_2 l1_3)) else (amqvalue_Same.j0 k true a0_0 a0_1 a0_2 l0_3 a1_0 a1_1 a1_2 l1_3)
end
mutual
def amqvalue_Count.l0 : Nat → Int → List (Vl) → Int → Int → Option (Int)
  | 0, _, _, _, _ => none
  | k + 1, x3, x7, x8, x9 => if x9 < x8 then (if 0 ≤ x9 then (if x9 < (x7.length : Int) then ((amqvalue_Count.f k ((rdV x7 x9).kind) ((rdV x7 x9).n) ((rdV x7 x9).text) ((rdV x7 x9).items)).bind fun t509 => (amqvalue_Count.l0 k (wrap64 (x3 + t509)) x7 x8 (wrap64 (x9 + 1)))) else (none)) else (none)) else (some x3)
def amqvalue_Count.f : Nat → Int → Int → ByteArray → List (Vl) → Option (Int)
  | 0, _, _, _, _ => none
  | k + 1, a0_0, a0_1, a0_2, l0_3 => amqvalue_Count.l0 k 1 l0_3 (l0_3.length : Int) 0
end
mutual
def amqvalue_Depth.l0 : Nat → Int → List (Vl) → Int → Int → Int → Int → ByteArray → List (Vl) → Option (Int)
  | 0, _, _, _, _, _, _, _, _ => none
  | k + 1, x3, x7, x8, x9, x1050000, x1050001, x1050002, x1050003 => if x9 < x8 then (if 0 ≤ x9 then (if x9 < (x7.length : Int) then ((amqvalue_Depth.f k ((rdV x7 x9).kind) ((rdV x7 x9).n) ((rdV x7 x9).text) ((rdV x7 x9).items)).bind fun t1052 => (amqvalue_Depth.l0 k (mx x3 t1052) x7 x8 (wrap64 (x9 + 1)) x1050000 x1050001 x1050002 x1050003)) else (none)) else (none)) else (if (x1050003.length : Int) = 0 then (if x1050000 < 22 then (some 0) else (if x1050000 > 25 then (some 0) else (some (wrap64 (x3 + 1))))) else (some (wrap64 (x3 + 1))))
def amqvalue_Depth.f : Nat → Int → Int → ByteArray → List (Vl) → Option (Int)
  | 0, _, _, _, _ => none
  | k + 1, a0_0, a0_1, a0_2, l0_3 => amqvalue_Depth.l0 k 0 l0_3 (l0_3.length : Int) 0 a0_0 a0_1 a0_2 l0_3
end
def amqvalue_shaped.f (a0_0 : Int) (a0_1 : Int) (a0_2 : ByteArray) (l0_3 : List (Vl)) : Option (Bool) := if a0_2.toList = ([] : List UInt8) then (if a0_0 = 24 then (if a0_1 ≥ 1 then (some (decide (a0_1 ≤ 24))) else (some false)) else (if a0_1 = 0 then (if a0_0 = 25 then (some ((l0_3.length : Int) == 2)) else (if a0_0 = 23 then (some (((l0_3.length : Int) % 2) == 0)) else (some true))) else (some false))) else (some false)
def amqvalue_noNumber.f (a0_0 : Int) (a0_1 : Int) (a0_2 : ByteArray) (l0_3 : List (Vl)) : Option (Bool) := if a0_0 = 11 then (if (Go.bits .and .u64 (a0_1 / 8388608) 255) = 255 then (some ((IntKind.u64.wrap (a0_1 * 2199023255552)) != 0)) else (some false)) else (if a0_0 = 12 then (if (Go.bits .and .u64 (a0_1 / 4503599627370496) 2047) = 2047 then (some ((IntKind.u64.wrap (a0_1 * 4096)) != 0)) else (some false)) else (some false))
mutual
def amqvalue_alike.j0 : Nat → Bool → Int → Int → ByteArray → List (Vl) → Int → Int → ByteArray → List (Vl) → Option (Bool)
  | 0, _, _, _, _, _, _, _, _, _ => none
  | k + 1, x26, x1718000, x1718001, x1718002, x1718003, x1719000, x1719001, x1719002, x1719003 => if x26 = true then (some false) else (if x1718001 = x1719001 then (amqvalue_alike.j1 k false x1718000 x1718001 x1718002 x1718003 x1719000 x1719001 x1719002 x1719003) else ((amqvalue_noNumber.f x1718000 x1718001 x1718002 x1718003).bind fun t1719 => (if t1719 = true then ((amqvalue_noNumber.f x1719000 x1719001 x1719002 x1719003).bind fun t1720 => (amqvalue_alike.j1 k (!t1720) x1718000 x1718001 x1718002 x1718003 x1719000 x1719001 x1719002 x1719003)) else (amqvalue_alike.j1 k (!false) x1718000 x1718001 x1718002 x1718003 x1719000 x1719001 x1719002 x1719003))))
def amqvalue_alike.j1 : Nat → Bool → Int → Int → ByteArray → List (Vl) → Int → Int → ByteArray → List (Vl) → Option (Bool)
  | 0, _, _, _, _, _, _, _, _, _ => none
  | k + 1, x40, x1718000, x1718001, x1718002, x1718003, x1719000, x1719001, x1719002, x1719003 => if x40 = true then (some false) else (amqvalue_alike.l0 k (x1718003.length : Int) 0 x1718000 x1718001 x1718002 x1718003 x1719000 x1719001 x1719002 x1719003)
def amqvalue_alike.l0 : Nat → Int → Int → Int → Int → ByteArray → List (Vl) → Int → Int → ByteArray → List (Vl) → Option (Bool)
  | 0, _, _, _, _, _, _, _, _, _, _ => none
  | k + 1, x43, x44, x1718000, x1718001, x1718002, x1718003, x1719000, x1719001, x1719002, x1719003 => if x44 < x43 then (if 0 ≤ x44 then (if x44 < (x1718003.length : Int) then (if x44 < (x1719003.length : Int) then ((amqvalue_alike.f k ((rdV x1718003 x44).kind) ((rdV x1718003 x44).n) ((rdV x1718003 x44).text) ((rdV x1718003 x44).items) ((rdV x1719003 x44).kind) ((rdV x1719003 x44).n) ((rdV x1719003 x44).text) ((rdV x1719003 x44).items)).bind fun t1723 => (if t1723 = true then (amqvalue_alike.l0 k x43 (wrap64 (x44 + 1)) x1718000 x1718001 x1718002 x1718003 x1719000 x1719001 x1719002 x1719003) else (some false))) else (none)) else (none)) else (none)) else (some true)
def amqvalue_alike.f : Nat → Int → Int → ByteArray → List (Vl) → Int → Int → ByteArray → List (Vl) → Option (Bool)
  | 0, _, _, _, _, _, _, _, _ => none
  | k + 1, a0_0, a0_1, a0_2, l0_3, a1_0, a1_1, a1_2, l1_3 => if a0_0 = a1_0 then (if a0_2.toList = a1_2.toList then (amqvalue_alike.j0 k ((l0_3.length : Int) != (l1_3.length : Int)) a0_0 a0_1 a0_2 l0_3 a1_0 a1_1 a1_2 l1_3) else (amqvalue_alike.j0 k true a0_0 a0_1 a0_2 l0_3 a1_0 a1_1 a1_2 l1_3)) else (amqvalue_alike.j0 k true a0_0 a0_1 a0_2 l0_3 a1_0 a1_1 a1_2 l1_3)
end
mutual
def amqvalue_keys.l0 : Nat → Int → Int → Int → ByteArray → List (Vl) → Option (Int)
  | 0, _, _, _, _, _ => none
  | k + 1, x3, x1725000, x1725001, x1725002, x1725003 => if x3 < (x1725003.length : Int) then (amqvalue_keys.l1 k x3 0 x1725000 x1725001 x1725002 x1725003) else (some 0)
def amqvalue_keys.l1 : Nat → Int → Int → Int → Int → ByteArray → List (Vl) → Option (Int)
  | 0, _, _, _, _, _, _ => none
  | k + 1, x3, x4, x1725000, x1725001, x1725002, x1725003 => if x4 < x3 then (if 0 ≤ x3 then (if x3 < (x1725003.length : Int) then (if 0 ≤ x4 then (if x4 < (x1725003.length : Int) then ((amqvalue_alike.f k ((rdV x1725003 x3).kind) ((rdV x1725003 x3).n) ((rdV x1725003 x3).text) ((rdV x1725003 x3).items) ((rdV x1725003 x4).kind) ((rdV x1725003 x4).n) ((rdV x1725003 x4).text) ((rdV x1725003 x4).items)).bind fun t1727 => (if t1727 = true then (some 16) else (amqvalue_keys.l1 k x3 (wrap64 (x4 + 2)) x1725000 x1725001 x1725002 x1725003))) else (none)) else (none)) else (none)) else (none)) else (amqvalue_keys.l0 k (wrap64 (x3 + 2)) x1725000 x1725001 x1725002 x1725003)
end
def amqvalue_keys.f (k : Nat) (a0_0 : Int) (a0_1 : Int) (a0_2 : ByteArray) (l0_3 : List (Vl)) : Option (Int) := if a0_0 = 23 then (amqvalue_keys.l0 k 2 a0_0 a0_1 a0_2 l0_3) else (some 0)
def amqvalue_mostRight.f (a0 : Int) : Option (Bool) := if a0 ≥ 0 then (some (decide (a0 ≤ 32))) else (some false)
end Go.Proofs.YtekpofpgkokoiaaDoor.Q
