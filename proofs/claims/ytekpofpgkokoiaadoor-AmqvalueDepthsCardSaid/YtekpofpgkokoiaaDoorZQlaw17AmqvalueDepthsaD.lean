/- A part of this claim: what its theorem leans on. -/
import Derived.Test.YtekpofpgkokoiaaDoorZQ0
import Derived.Test.YtekpofpgkokoiaaDoorZQpolyglotkitaD
import Derived.Test.YtekpofpgkokoiaaDoorZQlaw17livesaD
import Derived.Test.YtekpofpgkokoiaaDoorZQamqvalueaD
import Derived.Test.YtekpofpgkokoiaaDoorZVf
namespace Go.Proofs.YtekpofpgkokoiaaDoor.Q
open Go.RowKit Go.Proofs.YtekpofpgkokoiaaDoor.M Go.Proofs.YtekpofpgkokoiaaDoorW.PrintWords Go.Proofs.YtekpofpgkokoiaaDoorW.PrintLast Go.Proofs.YtekpofpgkokoiaaDoorW.PrintMore
attribute [local go_sem] max2_int min2_int max_two min_two max_three min_three max_four min_four
set_option linter.unusedVariables false
set_option linter.unusedSimpArgs false
mutual
def polyglotlaw17_AmqvalueDepths.j0 : Nat → Int → Int → Int → Int → ByteArray → List (Vl) → Option (Bool)
  | 0, _, _, _, _, _, _ => none
  | k + 1, x1, x2, x1183000, x1183001, x1183002, x1183003 => (amqvalue_Depth.f k x1183000 x1183001 x1183002 x1183003).bind fun t1187 => ((amqvalue_Count.f k x1183000 x1183001 x1183002 x1183003).bind fun t1188 => ((amqvalue_Check.f x1183000 x1183001 x1183002 x1183003 x1).bind fun t1189 => ((amqvalue_Check.f x1183000 x1183001 x1183002 x1183003 x2).bind fun t1190 => (if t1189 = 0 then (if t1190 = 0 then (if x1 < t1187 then (polyglotlaw17_AmqvalueDepths.j1 k x2 t1187 t1188 true x1183000 x1183001 x1183002 x1183003) else (if t1187 < 0 then (polyglotlaw17_AmqvalueDepths.j1 k x2 t1187 t1188 true x1183000 x1183001 x1183002 x1183003) else (polyglotlaw17_AmqvalueDepths.j1 k x2 t1187 t1188 (decide (t1188 < 1)) x1183000 x1183001 x1183002 x1183003))) else (polyglotlaw17_AmqvalueDepths.j1 k x2 t1187 t1188 true x1183000 x1183001 x1183002 x1183003)) else (if t1187 < 0 then (polyglotlaw17_AmqvalueDepths.j1 k x2 t1187 t1188 true x1183000 x1183001 x1183002 x1183003) else (polyglotlaw17_AmqvalueDepths.j1 k x2 t1187 t1188 (decide (t1188 < 1)) x1183000 x1183001 x1183002 x1183003))))))
def polyglotlaw17_AmqvalueDepths.j1 : Nat → Int → Int → Int → Bool → Int → Int → ByteArray → List (Vl) → Option (Bool)
  | 0, _, _, _, _, _, _, _, _ => none
  | k + 1, x2, x7, x8, x54, x1183000, x1183001, x1183002, x1183003 => if x54 = true then (none) else ((polyglotkit_L.f (([(⟨x1183000, x1183001, x1183002, x1183003⟩ : Vl)] : List (Vl)))).bind fun bt1194 => ((amqvalue_Depth.f k bt1194.1 bt1194.2.1 bt1194.2.2.1 bt1194.2.2.2).bind fun t1201 => (if t1201 = (wrap64 (x7 + 1)) then ((amqvalue_Count.f k bt1194.1 bt1194.2.1 bt1194.2.2.1 bt1194.2.2.2).bind fun t1202 => (if t1202 = (wrap64 (x8 + 1)) then ((amqvalue_Same.f k x1183000 x1183001 x1183002 x1183003 bt1194.1 bt1194.2.1 bt1194.2.2.1 bt1194.2.2.2).bind fun t1203 => (polyglotlaw17_AmqvalueDepths.j2 k x2 t1203 x1183000 x1183001 x1183002 x1183003 bt1194.1 bt1194.2.1 bt1194.2.2.1 bt1194.2.2.2)) else (polyglotlaw17_AmqvalueDepths.j2 k x2 true x1183000 x1183001 x1183002 x1183003 bt1194.1 bt1194.2.1 bt1194.2.2.1 bt1194.2.2.2))) else (polyglotlaw17_AmqvalueDepths.j2 k x2 true x1183000 x1183001 x1183002 x1183003 bt1194.1 bt1194.2.1 bt1194.2.2.1 bt1194.2.2.2))))
def polyglotlaw17_AmqvalueDepths.j2 : Nat → Int → Bool → Int → Int → ByteArray → List (Vl) → Int → Int → ByteArray → List (Vl) → Option (Bool)
  | 0, _, _, _, _, _, _, _, _, _, _ => none
  | k + 1, x2, x74, x1183000, x1183001, x1183002, x1183003, x1201000, x1201001, x1201002, x1201003 => if x74 = true then (none) else (if x2 = 0 then (some true) else ((amqvalue_Check.f x1201000 x1201001 x1201002 x1201003 x2).bind fun t1204 => ((amqvalue_Check.f x1183000 x1183001 x1183002 x1183003 (wrap64 (x2 - 1))).bind fun t1205 => (some ((t1204 == 0) == (t1205 == 0))))))
end
def polyglotlaw17_AmqvalueDepths.f (k : Nat) (a0_0 : Int) (a0_1 : Int) (a0_2 : ByteArray) (l0_3 : List (Vl)) (a1 : Int) (a2 : Int) : Option (Bool) := (polyglotlaw17_lives.f k).bind fun t1183 => (if t1183 = true then ((polyglotkit_LightValue.f k a0_0 a0_1 a0_2 l0_3).bind fun t1184 => (if t1184 = true then ((polyglotkit_Pick.f a1 33).bind fun t1185 => ((polyglotkit_Pick.f a2 33).bind fun t1186 => (if t1185 > t1186 then (polyglotlaw17_AmqvalueDepths.j0 k t1186 t1185 a0_0 a0_1 a0_2 l0_3) else (polyglotlaw17_AmqvalueDepths.j0 k t1185 t1186 a0_0 a0_1 a0_2 l0_3)))) else (some true))) else (none))
end Go.Proofs.YtekpofpgkokoiaaDoor.Q
