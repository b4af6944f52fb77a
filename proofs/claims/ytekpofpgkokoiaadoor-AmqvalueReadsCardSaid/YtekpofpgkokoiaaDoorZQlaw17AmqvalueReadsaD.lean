/- A part of this claim: what its theorem leans on. -/
import Derived.Test.YtekpofpgkokoiaaDoorZQ0
import Derived.Test.YtekpofpgkokoiaaDoorZQpolyglotkitaD
import Derived.Test.YtekpofpgkokoiaaDoorZQkitSameaD
import Derived.Test.YtekpofpgkokoiaaDoorZQlaw17livesaD
import Derived.Test.YtekpofpgkokoiaaDoorZQamqvalueaD
import Derived.Test.YtekpofpgkokoiaaDoorZVf
namespace Go.Proofs.YtekpofpgkokoiaaDoor.Q
open Go.RowKit Go.Proofs.YtekpofpgkokoiaaDoor.M Go.Proofs.YtekpofpgkokoiaaDoorW.PrintWords Go.Proofs.YtekpofpgkokoiaaDoorW.PrintLast Go.Proofs.YtekpofpgkokoiaaDoorW.PrintMore
attribute [local go_sem] max2_int min2_int max_two min_two max_three min_three max_four min_four
set_option linter.unusedVariables false
set_option linter.unusedSimpArgs false
mutual
def polyglotlaw17_AmqvalueReads.j0 : Nat → ByteArray → ByteArray → Int → Int → Bool → Option (Bool)
  | 0, _, _, _, _, _ => none
  | k + 1, x0, x1, x2, x3, x27 => if x27 = true then (some true) else ((polyglotkit_Pick.f x2 32).bind fun t1149 => ((amqvalue_Read.f x0 t1149).bind fun bt1150 => (if bt1150.2.2.2.2.2 = 0 then (if bt1150.2.2.2.2.1 < 1 then (polyglotlaw17_AmqvalueReads.j1 k x0 x1 t1149 x3 bt1150.2.2.2.2.1 true bt1150.1 bt1150.2.1 bt1150.2.2.1 bt1150.2.2.2.1) else (if bt1150.2.2.2.2.1 > (x0.size : Int) then (polyglotlaw17_AmqvalueReads.j1 k x0 x1 t1149 x3 bt1150.2.2.2.2.1 true bt1150.1 bt1150.2.1 bt1150.2.2.1 bt1150.2.2.2.1) else ((amqvalue_Check.f bt1150.1 bt1150.2.1 bt1150.2.2.1 bt1150.2.2.2.1 t1149).bind fun t1160 => (if t1160 = 0 then ((amqvalue_Depth.f k bt1150.1 bt1150.2.1 bt1150.2.2.1 bt1150.2.2.2.1).bind fun t1161 => (polyglotlaw17_AmqvalueReads.j1 k x0 x1 t1149 x3 bt1150.2.2.2.2.1 (decide (t1161 > t1149)) bt1150.1 bt1150.2.1 bt1150.2.2.1 bt1150.2.2.2.1)) else (polyglotlaw17_AmqvalueReads.j1 k x0 x1 t1149 x3 bt1150.2.2.2.2.1 true bt1150.1 bt1150.2.1 bt1150.2.2.1 bt1150.2.2.2.1))))) else (if bt1150.2.2.2.2.1 = 0 then ((polyglotkit_SameValue.f k bt1150.1 bt1150.2.1 bt1150.2.2.1 bt1150.2.2.2.1 0 0 (⟨#[]⟩ : ByteArray) ([] : List (Vl))).bind fun t1159 => (some t1159)) else (none)))))
def polyglotlaw17_AmqvalueReads.j1 : Nat → ByteArray → ByteArray → Int → Int → Int → Bool → Int → Int → ByteArray → List (Vl) → Option (Bool)
  | 0, _, _, _, _, _, _, _, _, _, _ => none
  | k + 1, x0, x1, x2, x3, x10, x65, x1159000, x1159001, x1159002, x1159003 => if x65 = true then (none) else (if 0 ≤ x10 then (if x10 ≤ (x0.size : Int) then (if (x0.extract 0 (x10 : Int).toNat).size + x1.size ≤ 9223372036854775807 then ((amqvalue_Read.f ((x0.extract 0 (x10 : Int).toNat) ++ x1) (wrap64 (x2 + 1))).bind fun bt1162 => (if bt1162.2.2.2.2.2 = 0 then (if bt1162.2.2.2.2.1 = x10 then ((amqvalue_Same.f k x1159000 x1159001 x1159002 x1159003 bt1162.1 bt1162.2.1 bt1162.2.2.1 bt1162.2.2.2.1).bind fun t1171 => (polyglotlaw17_AmqvalueReads.j2 k x0 x2 x3 x10 (!t1171))) else (polyglotlaw17_AmqvalueReads.j2 k x0 x2 x3 x10 true)) else (polyglotlaw17_AmqvalueReads.j2 k x0 x2 x3 x10 true))) else (none)) else (none)) else (none))
def polyglotlaw17_AmqvalueReads.j2 : Nat → ByteArray → Int → Int → Int → Bool → Option (Bool)
  | 0, _, _, _, _, _ => none
  | k + 1, x0, x2, x3, x10, x90 => if x90 = true then (none) else ((polyglotkit_Pick.f x3 x10).bind fun t1172 => (if 0 ≤ t1172 then (if t1172 ≤ (x0.size : Int) then ((amqvalue_Read.f (x0.extract 0 (t1172 : Int).toNat) x2).bind fun bt1173 => (some (bt1173.2.2.2.2.2 == 3))) else (none)) else (none)))
end
def polyglotlaw17_AmqvalueReads.f (k : Nat) (a0 : ByteArray) (a1 : ByteArray) (a2 : Int) (a3 : Int) : Option (Bool) := (polyglotlaw17_lives.f k).bind fun t1148 => (if t1148 = true then (if (a0.size : Int) > 200 then (polyglotlaw17_AmqvalueReads.j0 k a0 a1 a2 a3 true) else (polyglotlaw17_AmqvalueReads.j0 k a0 a1 a2 a3 (decide ((a1.size : Int) > 200)))) else (none))
end Go.Proofs.YtekpofpgkokoiaaDoor.Q
