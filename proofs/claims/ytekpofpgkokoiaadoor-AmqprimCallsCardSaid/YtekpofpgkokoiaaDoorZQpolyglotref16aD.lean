/- A part of this claim: what its theorem leans on. -/
import Derived.Test.YtekpofpgkokoiaaDoorZQ0
import Derived.Test.YtekpofpgkokoiaaDoorZQref16ofaD
import Derived.Test.YtekpofpgkokoiaaDoorZQref16bigaD
namespace Go.Proofs.YtekpofpgkokoiaaDoor.Q
open Go.RowKit Go.Proofs.YtekpofpgkokoiaaDoor.M Go.Proofs.YtekpofpgkokoiaaDoorW.PrintWords Go.Proofs.YtekpofpgkokoiaaDoorW.PrintLast Go.Proofs.YtekpofpgkokoiaaDoorW.PrintMore
attribute [local go_sem] max2_int min2_int max_two min_two max_three min_three max_four min_four
set_option linter.unusedVariables false
set_option linter.unusedSimpArgs false
def polyglotref16_signed.f (a0 : Int) (a1 : Int) : Option (Bool) := if 0 ≤ (IntKind.u64.wrap (a1 - 1)) then (if a0 < (shl .u64 1 (IntKind.u64.wrap (a1 - 1))) then (some true) else (some (decide (a0 ≥ (IntKind.u64.wrap (-(shl .u64 1 (IntKind.u64.wrap (a1 - 1))))))))) else (none)
mutual
def polyglotref16_bits.j0 : Nat → Int → Bool → Option (Int)
  | 0, _, _ => none
  | k + 1, x3, x10 => if x10 = true then (some 32) else (if x3 = 6 then (polyglotref16_bits.j1 k x3 (x3 == 6)) else (if x3 = 12 then (polyglotref16_bits.j1 k x3 (x3 == 12)) else (if x3 = 14 then (polyglotref16_bits.j1 k x3 (x3 == 14)) else (if x3 = 17 then (polyglotref16_bits.j1 k x3 (x3 == 17)) else (polyglotref16_bits.j1 k x3 (x3 == 10))))))
def polyglotref16_bits.j1 : Nat → Int → Bool → Option (Int)
  | 0, _, _ => none
  | k + 1, x3, x15 => if x15 = true then (some 64) else (if x3 = 7 then (some (-8)) else (if x3 = 8 then (some (-16)) else (if x3 = 9 then (some (-32)) else (some 0))))
end
def polyglotref16_bits.f (k : Nat) (a0 : Int) : Option (Int) := if a0 = 2 then (some 1) else (if a0 = 3 then (some 8) else (if a0 = 4 then (some 16) else (if a0 = 5 then (polyglotref16_bits.j0 k a0 (a0 == 5)) else (if a0 = 11 then (polyglotref16_bits.j0 k a0 (a0 == 11)) else (if a0 = 13 then (polyglotref16_bits.j0 k a0 (a0 == 13)) else (polyglotref16_bits.j0 k a0 (a0 == 16)))))))
def polyglotref16_char.f (a0 : Int) : Option (Bool) := if a0 ≤ 1114111 then (if a0 < 55296 then (some true) else (some (decide (a0 > 57343)))) else (some false)
def polyglotref16_ranged.f (k : Nat) (a0_0 : Int) (a0_1 : Int) (a0_2 : ByteArray) (l0_3 : List (Vl)) : Option (Bool) := (polyglotref16_bits.f k a0_0).bind fun t306 => (if a0_0 = 16 then ((polyglotref16_char.f a0_1).bind fun t307 => (some t307)) else (if t306 = 0 then (some (a0_1 == 0)) else (if t306 < 0 then ((polyglotref16_signed.f a0_1 (IntKind.u64.wrap (wrap64 (-t306)))).bind fun t308 => (some t308)) else (if t306 = 64 then (some true) else (if 0 ≤ (IntKind.u64.wrap (t306)) then (some (decide (a0_1 < (shl .u64 1 (IntKind.u64.wrap (t306)))))) else (none))))))
def polyglotref16_texts.f (a0 : Int) : Option (Bool) := if a0 = 15 then (some true) else (if a0 ≥ 18 then (some (decide (a0 ≤ 21))) else (some false))
def polyglotref16_after.f (a0 : ByteArray) (a1 : Int) (a2 : Int) (a3 : Int) : Option (Bool) := if a1 < (a0.size : Int) then (if 0 ≤ a1 then (if (bt a0 a1) ≥ a2 then (some (decide ((bt a0 a1) ≤ a3))) else (some false)) else (none)) else (some false)
mutual
def polyglotref16_step.j0 : Nat → ByteArray → Int → Int → Bool → Option (Int)
  | 0, _, _, _, _ => none
  | k + 1, x0, x1, x5, x12 => if x12 = true then (some 2) else (if x5 = 224 then ((polyglotref16_after.f x0 (wrap64 (x1 + 1)) 160 191).bind fun t310 => (if t310 = true then ((polyglotref16_after.f x0 (wrap64 (x1 + 2)) 128 191).bind fun t311 => (polyglotref16_step.j1 k x0 x1 x5 t311)) else (polyglotref16_step.j1 k x0 x1 x5 false))) else (polyglotref16_step.j1 k x0 x1 x5 false))
def polyglotref16_step.j1 : Nat → ByteArray → Int → Int → Bool → Option (Int)
  | 0, _, _, _, _ => none
  | k + 1, x0, x1, x5, x25 => if x25 = true then (polyglotref16_step.j3 k x0 x1 x5 x25) else (if x5 = 237 then ((polyglotref16_after.f x0 (wrap64 (x1 + 1)) 128 159).bind fun t312 => (if t312 = true then ((polyglotref16_after.f x0 (wrap64 (x1 + 2)) 128 191).bind fun t313 => (polyglotref16_step.j2 k x0 x1 x5 t313)) else (polyglotref16_step.j2 k x0 x1 x5 false))) else (polyglotref16_step.j2 k x0 x1 x5 false))
def polyglotref16_step.j3 : Nat → ByteArray → Int → Int → Bool → Option (Int)
  | 0, _, _, _, _ => none
  | k + 1, x0, x1, x5, x25 => if x25 = true then (some 3) else (if x5 = 240 then ((polyglotref16_after.f x0 (wrap64 (x1 + 1)) 144 191).bind fun t316 => (if t316 = true then ((polyglotref16_after.f x0 (wrap64 (x1 + 2)) 128 191).bind fun t317 => (if t317 = true then ((polyglotref16_after.f x0 (wrap64 (x1 + 3)) 128 191).bind fun t318 => (polyglotref16_step.j4 k x0 x1 x5 t318)) else (polyglotref16_step.j4 k x0 x1 x5 false))) else (polyglotref16_step.j4 k x0 x1 x5 false))) else (polyglotref16_step.j4 k x0 x1 x5 false))
def polyglotref16_step.j4 : Nat → ByteArray → Int → Int → Bool → Option (Int)
  | 0, _, _, _, _ => none
  | k + 1, x0, x1, x5, x76 => if x76 = true then (some 4) else (if x5 ≥ 241 then (if x5 ≤ 243 then ((polyglotref16_after.f x0 (wrap64 (x1 + 1)) 128 191).bind fun t319 => (if t319 = true then ((polyglotref16_after.f x0 (wrap64 (x1 + 2)) 128 191).bind fun t320 => (if t320 = true then ((polyglotref16_after.f x0 (wrap64 (x1 + 3)) 128 191).bind fun t321 => (polyglotref16_step.j5 k x0 x1 x5 t321)) else (polyglotref16_step.j5 k x0 x1 x5 false))) else (polyglotref16_step.j5 k x0 x1 x5 false))) else (polyglotref16_step.j5 k x0 x1 x5 false)) else (polyglotref16_step.j5 k x0 x1 x5 false))
def polyglotref16_step.j5 : Nat → ByteArray → Int → Int → Bool → Option (Int)
  | 0, _, _, _, _ => none
  | k + 1, x0, x1, x5, x76 => if x76 = true then (some 4) else (if x5 = 244 then ((polyglotref16_after.f x0 (wrap64 (x1 + 1)) 128 143).bind fun t322 => (if t322 = true then ((polyglotref16_after.f x0 (wrap64 (x1 + 2)) 128 191).bind fun t323 => (if t323 = true then ((polyglotref16_after.f x0 (wrap64 (x1 + 3)) 128 191).bind fun t324 => (if t324 = true then (some 4) else (some 0))) else (some 0))) else (some 0))) else (some 0))
def polyglotref16_step.j2 : Nat → ByteArray → Int → Int → Bool → Option (Int)
  | 0, _, _, _, _ => none
  | k + 1, x0, x1, x5, x25 => if x25 = true then (polyglotref16_step.j3 k x0 x1 x5 x25) else (if x5 ≥ 225 then (if x5 ≤ 239 then (if x5 = 237 then (polyglotref16_step.j3 k x0 x1 x5 false) else ((polyglotref16_after.f x0 (wrap64 (x1 + 1)) 128 191).bind fun t314 => (if t314 = true then ((polyglotref16_after.f x0 (wrap64 (x1 + 2)) 128 191).bind fun t315 => (polyglotref16_step.j3 k x0 x1 x5 t315)) else (polyglotref16_step.j3 k x0 x1 x5 false)))) else (polyglotref16_step.j3 k x0 x1 x5 false)) else (polyglotref16_step.j3 k x0 x1 x5 false))
end
def polyglotref16_step.f (k : Nat) (a0 : ByteArray) (a1 : Int) : Option (Int) := if 0 ≤ a1 then (if a1 < (a0.size : Int) then (if (bt a0 a1) < 128 then (some 1) else (if (bt a0 a1) ≥ 194 then (if (bt a0 a1) ≤ 223 then ((polyglotref16_after.f a0 (wrap64 (a1 + 1)) 128 191).bind fun t309 => (polyglotref16_step.j0 k a0 a1 (bt a0 a1) t309)) else (polyglotref16_step.j0 k a0 a1 (bt a0 a1) false)) else (polyglotref16_step.j0 k a0 a1 (bt a0 a1) false))) else (none)) else (none)
def polyglotref16_utf8.l0 : Nat → ByteArray → Int → Option (Bool)
  | 0, _, _ => none
  | k + 1, x0, x3 => if x3 < (x0.size : Int) then ((polyglotref16_step.f k x0 x3).bind fun t325 => (if t325 = 0 then (some false) else (polyglotref16_utf8.l0 k x0 (wrap64 (x3 + t325))))) else (some true)
def polyglotref16_utf8.f (k : Nat) (a0 : ByteArray) : Option (Bool) := polyglotref16_utf8.l0 k a0 0
def polyglotref16_ascii.l0 : Nat → ByteArray → Int → Option (Bool)
  | 0, _, _ => none
  | k + 1, x0, x3 => if x3 < (x0.size : Int) then (if 0 ≤ x3 then (if (bt x0 x3) ≥ 128 then (some false) else (polyglotref16_ascii.l0 k x0 (wrap64 (x3 + 1)))) else (none)) else (some true)
def polyglotref16_ascii.f (k : Nat) (a0 : ByteArray) : Option (Bool) := polyglotref16_ascii.l0 k a0 0
mutual
def polyglotref16_Check.j0 : Nat → Bool → Int → Int → ByteArray → List (Vl) → Option (Int)
  | 0, _, _, _, _, _ => none
  | k + 1, x3, x327000, x327001, x327002, x327003 => if x327000 < 1 then (polyglotref16_Check.j1 k x3 true x327000 x327001 x327002 x327003) else (polyglotref16_Check.j1 k x3 (decide (x327000 > 21)) x327000 x327001 x327002 x327003)
def polyglotref16_Check.j1 : Nat → Bool → Bool → Int → Int → ByteArray → List (Vl) → Option (Int)
  | 0, _, _, _, _, _, _ => none
  | k + 1, x3, x12, x327000, x327001, x327002, x327003 => if x12 = true then (some 8) else ((polyglotref16_ranged.f k x327000 x327001 x327002 x327003).bind fun t327 => (if t327 = true then (if (x327003.length : Int) > 0 then (polyglotref16_Check.j2 k true x327000 x327001 x327002 x327003) else ((polyglotref16_texts.f x327000).bind fun t328 => (if t328 = true then (if x3 = true then (polyglotref16_Check.j2 k ((x327002.size : Int) != 16) x327000 x327001 x327002 x327003) else (polyglotref16_Check.j2 k false x327000 x327001 x327002 x327003)) else (if x327002.toList = ([] : List UInt8) then (if x3 = true then (polyglotref16_Check.j2 k ((x327002.size : Int) != 16) x327000 x327001 x327002 x327003) else (polyglotref16_Check.j2 k false x327000 x327001 x327002 x327003)) else (polyglotref16_Check.j2 k true x327000 x327001 x327002 x327003))))) else (polyglotref16_Check.j2 k true x327000 x327001 x327002 x327003)))
def polyglotref16_Check.j2 : Nat → Bool → Int → Int → ByteArray → List (Vl) → Option (Int)
  | 0, _, _, _, _, _ => none
  | k + 1, x21, x327000, x327001, x327002, x327003 => if x21 = true then (some 2) else (if (x327002.size : Int) > 1048576 then (some 4) else (if x327000 = 20 then ((polyglotref16_utf8.f k x327002).bind fun t329 => (if t329 = true then (if x327000 = 21 then ((polyglotref16_ascii.f k x327002).bind fun t330 => (if t330 = true then (some 0) else (some 6))) else (some 0)) else (some 6))) else (if x327000 = 21 then ((polyglotref16_ascii.f k x327002).bind fun t331 => (if t331 = true then (some 0) else (some 6))) else (some 0))))
end
def polyglotref16_Check.f (k : Nat) (a0_0 : Int) (a0_1 : Int) (a0_2 : ByteArray) (l0_3 : List (Vl)) : Option (Int) := if a0_0 = 15 then (polyglotref16_Check.j0 k true a0_0 a0_1 a0_2 l0_3) else (polyglotref16_Check.j0 k (a0_0 == 18) a0_0 a0_1 a0_2 l0_3)
mutual
def polyglotref16_Fits.j0 : Nat → Int → Bool → Int → Int → ByteArray → List (Vl) → Int → Int → Int → Bool → Bool → Option (Bool)
  | 0, _, _, _, _, _, _, _, _, _, _, _ => none
  | k + 1, x0, x25, x368000, x368001, x368002, x368003, x375000, x375001, x375002, x375003, x375004 => if x25 = true then (some false) else (if x0 = 65 then (some (x368001 == 1)) else (if x375002 = 0 then (some (x368001 == 0)) else (if x375003 = true then (polyglotref16_Fits.j1 k x0 (x375002 == 1) x368000 x368001 x368002 x368003) else (polyglotref16_Fits.j1 k x0 false x368000 x368001 x368002 x368003))))
def polyglotref16_Fits.j1 : Nat → Int → Bool → Int → Int → ByteArray → List (Vl) → Option (Bool)
  | 0, _, _, _, _, _, _ => none
  | k + 1, x0, x39, x368000, x368001, x368002, x368003 => if x39 = true then (some (decide ((x368002.size : Int) < 256))) else (if x0 = 82 then (polyglotref16_Fits.j2 k x0 true x368000 x368001 x368002 x368003) else (polyglotref16_Fits.j2 k x0 (x0 == 83) x368000 x368001 x368002 x368003))
def polyglotref16_Fits.j2 : Nat → Int → Bool → Int → Int → ByteArray → List (Vl) → Option (Bool)
  | 0, _, _, _, _, _, _ => none
  | k + 1, x0, x51, x368000, x368001, x368002, x368003 => if x51 = true then (some (decide (x368001 < 256))) else (if x0 = 84 then ((polyglotref16_signed.f x368001 8).bind fun t376 => (some t376)) else (if x0 = 85 then ((polyglotref16_signed.f x368001 8).bind fun t377 => (some t377)) else (some true)))
end
def polyglotref16_Fits.f (k : Nat) (a0 : Int) (a1_0 : Int) (a1_1 : Int) (a1_2 : ByteArray) (l1_3 : List (Vl)) : Option (Bool) := (polyglotref16_Of.f k a0).bind fun bt368 => (if bt368.2.2.2.2.2 = true then (if bt368.2.1 = a1_0 then ((polyglotref16_Check.f k a1_0 a1_1 a1_2 l1_3).bind fun t375 => (polyglotref16_Fits.j0 k a0 (t375 != 0) a1_0 a1_1 a1_2 l1_3 bt368.1 bt368.2.1 bt368.2.2.1 bt368.2.2.2.1 bt368.2.2.2.2.1)) else (polyglotref16_Fits.j0 k a0 true a1_0 a1_1 a1_2 l1_3 bt368.1 bt368.2.1 bt368.2.2.1 bt368.2.2.2.1 bt368.2.2.2.2.1)) else (polyglotref16_Fits.j0 k a0 true a1_0 a1_1 a1_2 l1_3 bt368.1 bt368.2.1 bt368.2.2.1 bt368.2.2.2.1 bt368.2.2.2.2.1))
def polyglotref16_Put.f (k : Nat) (a0 : Int) (a1_0 : Int) (a1_1 : Int) (a1_2 : ByteArray) (l1_3 : List (Vl)) : Option (ByteArray × Int) := (polyglotref16_Check.f k a1_0 a1_1 a1_2 l1_3).bind fun t399 => (if t399 = 0 then ((polyglotref16_Fits.f k a0 a1_0 a1_1 a1_2 l1_3).bind fun t400 => (if t400 = true then ((polyglotref16_Of.f k a0).bind fun bt401 => (if bt401.2.2.2.1 = true then ((polyglotref16_Big.f k (IntKind.u64.wrap ((a1_2.size : Int))) bt401.2.2.1).bind fun t408 => (if t408.size + a1_2.size ≤ 9223372036854775807 then (some (t408 ++ a1_2, 0)) else (none))) else (if bt401.2.2.1 = 16 then (some (a1_2, 0)) else ((polyglotref16_Big.f k a1_1 bt401.2.2.1).bind fun t409 => (some (t409, 0)))))) else (some ((⟨#[]⟩ : ByteArray), 2)))) else (some ((⟨#[]⟩ : ByteArray), t399)))
def polyglotref16_Least.l0 : Nat → List Int → Int → Int → Int → ByteArray → List (Vl) → Option (Int × Int)
  | 0, _, _, _, _, _, _ => none
  | k + 1, x5, x6, x907000, x907001, x907002, x907003 => if x6 < (x5.length : Int) then (if 0 ≤ x6 then ((polyglotref16_Fits.f k (rd x5 x6) x907000 x907001 x907002 x907003).bind fun t912 => (if t912 = true then (some (rd x5 x6, 0)) else (polyglotref16_Least.l0 k x5 (wrap64 (x6 + 1)) x907000 x907001 x907002 x907003))) else (none)) else (some (0, 2))
def polyglotref16_Least.f (k : Nat) (a0_0 : Int) (a0_1 : Int) (a0_2 : ByteArray) (l0_3 : List (Vl)) : Option (Int × Int) := (polyglotref16_Check.f k a0_0 a0_1 a0_2 l0_3).bind fun t907 => (if t907 = 0 then ((polyglotref16_Codes.f k a0_0).bind fun t908 => (polyglotref16_Least.l0 k t908 0 a0_0 a0_1 a0_2 l0_3)) else (some (0, t907)))
def polyglotref16_whole.j0 : Nat → Int → Int → Bool → Option (Int)
  | 0, _, _, _ => none
  | k + 1, x0, x2, x14 => if x14 = true then (if 0 ≤ (IntKind.u64.wrap (wrap64 ((wrap64 (8 * x2)) - 1))) then (if x0 ≥ (shl .u64 1 (IntKind.u64.wrap (wrap64 ((wrap64 (8 * x2)) - 1)))) then (some (IntKind.u64.wrap ((IntKind.u64.wrap (x0 - (shl .u64 1 (IntKind.u64.wrap (wrap64 ((wrap64 (8 * x2)) - 1)))))) - (shl .u64 1 (IntKind.u64.wrap (wrap64 ((wrap64 (8 * x2)) - 1))))))) else (some x0)) else (none)) else (some x0)
def polyglotref16_whole.f (k : Nat) (a0 : Int) (a1 : Int) (a2 : Int) : Option (Int) := (polyglotref16_bits.f k a1).bind fun t914 => (if t914 < 0 then (polyglotref16_whole.j0 k a0 a2 true) else (polyglotref16_whole.j0 k a0 a2 (a1 == 10)))
mutual
def polyglotref16_Get.j0 : Nat → Int → ByteArray → Bool → Int → Int → Int → Bool → Bool → Option (Int × Int × ByteArray × (List (Vl)) × Int × Int)
  | 0, _, _, _, _, _, _, _, _ => none
  | k + 1, x0, x1, x23, x923000, x923001, x923002, x923003, x923004 => if x23 = true then (some (0, 0, (⟨#[]⟩ : ByteArray), ([] : List (Vl)), 0, 8)) else (if (x1.size : Int) < x923002 then (some (0, 0, (⟨#[]⟩ : ByteArray), ([] : List (Vl)), 0, 3)) else (if x923003 = true then (if 0 ≤ x923002 then (if x923002 ≤ (x1.size : Int) then ((polyglotref16_Number.f k (x1.extract 0 (x923002 : Int).toNat)).bind fun t924 => (if t924 > (IntKind.u64.wrap (wrap64 ((x1.size : Int) - x923002))) then (some (0, 0, (⟨#[]⟩ : ByteArray), ([] : List (Vl)), 0, 3)) else (if x923002 ≤ (wrap64 (x923002 + (wrap64 (t924)))) then (if (wrap64 (x923002 + (wrap64 (t924)))) ≤ (x1.size : Int) then (polyglotref16_Get.j1 k (wrap64 (x923002 + (wrap64 (t924)))) x923001 0 (x1.extract (x923002 : Int).toNat ((wrap64 (x923002 + (wrap64 (t924)))) : Int).toNat)) else (none)) else (none)))) else (none)) else (none)) else (if x923002 = 16 then (if 16 ≤ (x1.size : Int) then (polyglotref16_Get.j1 k x923002 x923001 0 (x1.extract 0 16)) else (none)) else (if x0 = 65 then (polyglotref16_Get.j1 k x923002 x923001 1 (⟨#[]⟩ : ByteArray)) else (if x923002 > 0 then (if 0 ≤ x923002 then (if x923002 ≤ (x1.size : Int) then ((polyglotref16_Number.f k (x1.extract 0 (x923002 : Int).toNat)).bind fun t925 => ((polyglotref16_whole.f k t925 x923001 x923002).bind fun t926 => (polyglotref16_Get.j1 k x923002 x923001 t926 (⟨#[]⟩ : ByteArray)))) else (none)) else (none)) else (polyglotref16_Get.j1 k x923002 x923001 0 (⟨#[]⟩ : ByteArray)))))))
def polyglotref16_Get.j1 : Nat → Int → Int → Int → ByteArray → Option (Int × Int × ByteArray × (List (Vl)) × Int × Int)
  | 0, _, _, _, _ => none
  | k + 1, x10, x924000, x924001, x924002 => (polyglotref16_Check.f k x924000 x924001 x924002 ([] : List (Vl))).bind fun t927 => (if t927 = 2 then (some (0, 0, (⟨#[]⟩ : ByteArray), ([] : List (Vl)), 0, 5)) else (if t927 = 0 then (some (x924000, x924001, x924002, ([] : List (Vl)), x10, 0)) else (some (0, 0, (⟨#[]⟩ : ByteArray), ([] : List (Vl)), 0, t927))))
end
def polyglotref16_Get.f (k : Nat) (a0 : Int) (a1 : ByteArray) : Option (Int × Int × ByteArray × (List (Vl)) × Int × Int) := (polyglotref16_Of.f k a0).bind fun bt916 => (if bt916.2.2.2.2.2 = true then (polyglotref16_Get.j0 k a0 a1 bt916.2.2.2.2.1 bt916.1 bt916.2.1 bt916.2.2.1 bt916.2.2.2.1 bt916.2.2.2.2.1) else (polyglotref16_Get.j0 k a0 a1 true bt916.1 bt916.2.1 bt916.2.2.1 bt916.2.2.2.1 bt916.2.2.2.2.1))
end Go.Proofs.YtekpofpgkokoiaaDoor.Q
