-- PRINTED by print.py (a twelfth state) out of the translation. Not trusted: Lean checks it.
import Derived.Test.YtekpofpgkokoiaaDoorQ0
import Derived.Test.YtekpofpgkokoiaaDoorQpolyglotkitaD
import Derived.Test.YtekpofpgkokoiaaDoorQlaw16livesaD
import Derived.Test.YtekpofpgkokoiaaDoorQkitSameaD
namespace Go.Proofs.YtekpofpgkokoiaaDoor.Q
open Go.RowKit Go.Proofs.YtekpofpgkokoiaaDoor.M Go.Proofs.YtekpofpgkokoiaaDoorW.PrintWords Go.Proofs.YtekpofpgkokoiaaDoorW.PrintLast Go.Proofs.YtekpofpgkokoiaaDoorW.PrintMore
attribute [local go_sem] max2_int min2_int max_two min_two max_three min_three max_four min_four   -- for this text's walks alone
set_option linter.unusedVariables false
set_option linter.unusedSimpArgs false

mutual
def polyglotlaw16_AmqprimWidths.j0 : Nat → Int → Int → Bool → Int → Int → ByteArray → List (Vl) → Int → Int → ByteArray → List (Vl) → Option (Bool)
  | 0, _, _, _, _, _, _, _, _, _, _, _ => none
  | k + 1, x2, x3, x27, x137000, x137001, x137002, x137003, x138000, x138001, x138002, x138003 => if x27 = true then (some true) else ((amqprim_Codes.f x137000).bind fun t141 => (if (t141.length : Int) = 0 then (polyglotlaw16_AmqprimWidths.j1 k x2 x3 t141 true x137000 x137001 x137002 x137003 x138000 x138001 x138002 x138003) else ((amqprim_Check.f x137000 x137001 x137002 x137003).bind fun t144 => (polyglotlaw16_AmqprimWidths.j1 k x2 x3 t141 (t144 != 0) x137000 x137001 x137002 x137003 x138000 x138001 x138002 x138003))))
def polyglotlaw16_AmqprimWidths.j1 : Nat → Int → Int → List Int → Bool → Int → Int → ByteArray → List (Vl) → Int → Int → ByteArray → List (Vl) → Option (Bool)
  | 0, _, _, _, _, _, _, _, _, _, _, _, _ => none
  | k + 1, x2, x3, x9, x38, x137000, x137001, x137002, x137003, x138000, x138001, x138002, x138003 => if x38 = true then (some true) else ((polyglotkit_Pick.f x2 (x9.length : Int)).bind fun t145 => ((polyglotkit_Pick.f x3 (x9.length : Int)).bind fun t146 => (if 0 ≤ t145 then (if t145 < (x9.length : Int) then ((amqprim_Of.f (rd x9 t145)).bind fun bt148 => (if 0 ≤ t146 then (if t146 < (x9.length : Int) then ((amqprim_Of.f (rd x9 t146)).bind fun bt156 => (if bt148.2.2.1 > 0 then (if bt148.2.2.1 ≤ bt156.2.2.1 then ((amqprim_Fits.f (rd x9 t145) x137000 x137001 x137002 x137003).bind fun t164 => (if t164 = true then ((amqprim_Fits.f (rd x9 t146) x137000 x137001 x137002 x137003).bind fun t166 => (polyglotlaw16_AmqprimWidths.j2 k t146 x9 (!t166) x137000 x137001 x137002 x137003 x138000 x138001 x138002 x138003 bt156.1 bt156.2.1 bt156.2.2.1 bt156.2.2.2.1 bt156.2.2.2.2.1)) else (polyglotlaw16_AmqprimWidths.j2 k t146 x9 false x137000 x137001 x137002 x137003 x138000 x138001 x138002 x138003 bt156.1 bt156.2.1 bt156.2.2.1 bt156.2.2.2.1 bt156.2.2.2.2.1))) else (polyglotlaw16_AmqprimWidths.j2 k t146 x9 false x137000 x137001 x137002 x137003 x138000 x138001 x138002 x138003 bt156.1 bt156.2.1 bt156.2.2.1 bt156.2.2.2.1 bt156.2.2.2.2.1)) else (polyglotlaw16_AmqprimWidths.j2 k t146 x9 false x137000 x137001 x137002 x137003 x138000 x138001 x138002 x138003 bt156.1 bt156.2.1 bt156.2.2.1 bt156.2.2.2.1 bt156.2.2.2.2.1))) else (none)) else (none))) else (none)) else (none))))
def polyglotlaw16_AmqprimWidths.j2 : Nat → Int → List Int → Bool → Int → Int → ByteArray → List (Vl) → Int → Int → ByteArray → List (Vl) → Int → Int → Int → Bool → Bool → Option (Bool)
  | 0, _, _, _, _, _, _, _, _, _, _, _, _, _, _, _, _ => none
  | k + 1, x3, x9, x89, x137000, x137001, x137002, x137003, x138000, x138001, x138002, x138003, x163000, x163001, x163002, x163003, x163004 => if x89 = true then (none) else (if 0 ≤ x3 then (if x3 < (x9.length : Int) then ((amqprim_Put.f (rd x9 x3) x137000 x137001 x137002 x137003).bind fun bt168 => ((amqprim_Put.f (rd x9 x3) x138000 x138001 x138002 x138003).bind fun bt171 => (if bt168.2 = 0 then (if bt171.2 = 0 then ((polyglotkit_SameValue.f k x137000 x137001 x137002 x137003 x138000 x138001 x138002 x138003).bind fun t173 => (polyglotlaw16_AmqprimWidths.j3 k bt168.1 bt168.2 ((bt168.1.toList == bt171.1.toList) != t173) x137000 x137001 x137002 x137003 x163000 x163001 x163002 x163003 x163004)) else (polyglotlaw16_AmqprimWidths.j3 k bt168.1 bt168.2 false x137000 x137001 x137002 x137003 x163000 x163001 x163002 x163003 x163004)) else (polyglotlaw16_AmqprimWidths.j3 k bt168.1 bt168.2 false x137000 x137001 x137002 x137003 x163000 x163001 x163002 x163003 x163004)))) else (none)) else (none))
def polyglotlaw16_AmqprimWidths.j3 : Nat → ByteArray → Int → Bool → Int → Int → ByteArray → List (Vl) → Int → Int → Int → Bool → Bool → Option (Bool)
  | 0, _, _, _, _, _, _, _, _, _, _, _, _ => none
  | k + 1, x14, x15, x122, x137000, x137001, x137002, x137003, x163000, x163001, x163002, x163003, x163004 => if x122 = true then (none) else (if x15 = 0 then (if x163003 = true then (if (x14.size : Int) = (wrap64 (x163002 + (x137002.size : Int))) then (if 0 ≤ x163002 then (if x163002 ≤ (x14.size : Int) then (some ((x14.extract (x163002 : Int).toNat x14.size).toList == x137002.toList)) else (none)) else (none)) else (none)) else (some ((x14.size : Int) == x163002))) else (some (x14.toList == ([] : List UInt8))))
end
def polyglotlaw16_AmqprimWidths.f (k : Nat) (a0_0 : Int) (a0_1 : Int) (a0_2 : ByteArray) (l0_3 : List (Vl)) (a1_0 : Int) (a1_1 : Int) (a1_2 : ByteArray) (l1_3 : List (Vl)) (a2 : Int) (a3 : Int) : Option (Bool) := (polyglotlaw16_lives.f).bind fun t138 => (if t138 = true then ((polyglotkit_LightValue.f k a0_0 a0_1 a0_2 l0_3).bind fun t139 => (if t139 = true then ((polyglotkit_LightValue.f k a1_0 a1_1 a1_2 l1_3).bind fun t140 => (polyglotlaw16_AmqprimWidths.j0 k a2 a3 (!t140) a0_0 a0_1 a0_2 l0_3 a1_0 a1_1 a1_2 l1_3)) else (polyglotlaw16_AmqprimWidths.j0 k a2 a3 true a0_0 a0_1 a0_2 l0_3 a1_0 a1_1 a1_2 l1_3))) else (none))
theorem polyglotlaw16_AmqprimWidths.mono_l : ∀ k, (∀ y0 y1 y2 y3 y4 y5 y6 y7 y8 y9 y10, LeO (polyglotlaw16_AmqprimWidths.j0 k y0 y1 y2 y3 y4 y5 y6 y7 y8 y9 y10) (polyglotlaw16_AmqprimWidths.j0 (k + 1) y0 y1 y2 y3 y4 y5 y6 y7 y8 y9 y10)) ∧ (∀ y0 y1 y2 y3 y4 y5 y6 y7 y8 y9 y10 y11, LeO (polyglotlaw16_AmqprimWidths.j1 k y0 y1 y2 y3 y4 y5 y6 y7 y8 y9 y10 y11) (polyglotlaw16_AmqprimWidths.j1 (k + 1) y0 y1 y2 y3 y4 y5 y6 y7 y8 y9 y10 y11)) ∧ (∀ y0 y1 y2 y3 y4 y5 y6 y7 y8 y9 y10 y11 y12 y13 y14 y15, LeO (polyglotlaw16_AmqprimWidths.j2 k y0 y1 y2 y3 y4 y5 y6 y7 y8 y9 y10 y11 y12 y13 y14 y15) (polyglotlaw16_AmqprimWidths.j2 (k + 1) y0 y1 y2 y3 y4 y5 y6 y7 y8 y9 y10 y11 y12 y13 y14 y15)) ∧ (∀ y0 y1 y2 y3 y4 y5 y6 y7 y8 y9 y10 y11, LeO (polyglotlaw16_AmqprimWidths.j3 k y0 y1 y2 y3 y4 y5 y6 y7 y8 y9 y10 y11) (polyglotlaw16_AmqprimWidths.j3 (k + 1) y0 y1 y2 y3 y4 y5 y6 y7 y8 y9 y10 y11))
  | 0 => ⟨fun _ _ _ _ _ _ _ _ _ _ _ r h => by simp [polyglotlaw16_AmqprimWidths.j0] at h, fun _ _ _ _ _ _ _ _ _ _ _ _ r h => by simp [polyglotlaw16_AmqprimWidths.j1] at h, fun _ _ _ _ _ _ _ _ _ _ _ _ _ _ _ _ r h => by simp [polyglotlaw16_AmqprimWidths.j2] at h, fun _ _ _ _ _ _ _ _ _ _ _ _ r h => by simp [polyglotlaw16_AmqprimWidths.j3] at h⟩
  | k + 1 => by
    obtain ⟨ih0, ih1, ih2, ih3⟩ := polyglotlaw16_AmqprimWidths.mono_l k
    refine ⟨?_, ?_, ?_, ?_⟩
    · intro y0 y1 y2 y3 y4 y5 y6 y7 y8 y9 y10
      unfold polyglotlaw16_AmqprimWidths.j0
      repeat' first
      | (with_reducible exact ih0 _ _ _ _ _ _ _ _ _ _ _)
      | (with_reducible exact ih1 _ _ _ _ _ _ _ _ _ _ _ _)
      | (with_reducible exact ih2 _ _ _ _ _ _ _ _ _ _ _ _ _ _ _ _)
      | (with_reducible exact ih3 _ _ _ _ _ _ _ _ _ _ _ _)
      | (with_reducible exact polyglotkit_LightValue.mono _ _ _ _ _)
      | (with_reducible exact polyglotkit_SameValue.mono _ _ _ _ _ _ _ _ _)
      | (with_reducible exact LeO.refl _)
      | (with_reducible exact LeO.none _)
      | (with_reducible refine LeO.ite ?_ ?_)
      | (with_reducible refine LeO.bind ?_ (fun _ => ?_))
      | exact ih0 _ _ _ _ _ _ _ _ _ _ _
      | exact ih1 _ _ _ _ _ _ _ _ _ _ _ _
      | exact ih2 _ _ _ _ _ _ _ _ _ _ _ _ _ _ _ _
      | exact ih3 _ _ _ _ _ _ _ _ _ _ _ _
      | exact polyglotkit_LightValue.mono _ _ _ _ _
      | exact polyglotkit_SameValue.mono _ _ _ _ _ _ _ _ _
      | exact LeO.none _
      | refine LeO.ite ?_ ?_
      | refine LeO.bind ?_ (fun _ => ?_)
    · intro y0 y1 y2 y3 y4 y5 y6 y7 y8 y9 y10 y11
      unfold polyglotlaw16_AmqprimWidths.j1
      repeat' first
      | (with_reducible exact ih0 _ _ _ _ _ _ _ _ _ _ _)
      | (with_reducible exact ih1 _ _ _ _ _ _ _ _ _ _ _ _)
      | (with_reducible exact ih2 _ _ _ _ _ _ _ _ _ _ _ _ _ _ _ _)
      | (with_reducible exact ih3 _ _ _ _ _ _ _ _ _ _ _ _)
      | (with_reducible exact polyglotkit_LightValue.mono _ _ _ _ _)
      | (with_reducible exact polyglotkit_SameValue.mono _ _ _ _ _ _ _ _ _)
      | (with_reducible exact LeO.refl _)
      | (with_reducible exact LeO.none _)
      | (with_reducible refine LeO.ite ?_ ?_)
      | (with_reducible refine LeO.bind ?_ (fun _ => ?_))
      | exact ih0 _ _ _ _ _ _ _ _ _ _ _
      | exact ih1 _ _ _ _ _ _ _ _ _ _ _ _
      | exact ih2 _ _ _ _ _ _ _ _ _ _ _ _ _ _ _ _
      | exact ih3 _ _ _ _ _ _ _ _ _ _ _ _
      | exact polyglotkit_LightValue.mono _ _ _ _ _
      | exact polyglotkit_SameValue.mono _ _ _ _ _ _ _ _ _
      | exact LeO.none _
      | refine LeO.ite ?_ ?_
      | refine LeO.bind ?_ (fun _ => ?_)
    · intro y0 y1 y2 y3 y4 y5 y6 y7 y8 y9 y10 y11 y12 y13 y14 y15
      unfold polyglotlaw16_AmqprimWidths.j2
      repeat' first
      | (with_reducible exact ih0 _ _ _ _ _ _ _ _ _ _ _)
      | (with_reducible exact ih1 _ _ _ _ _ _ _ _ _ _ _ _)
      | (with_reducible exact ih2 _ _ _ _ _ _ _ _ _ _ _ _ _ _ _ _)
      | (with_reducible exact ih3 _ _ _ _ _ _ _ _ _ _ _ _)
      | (with_reducible exact polyglotkit_LightValue.mono _ _ _ _ _)
      | (with_reducible exact polyglotkit_SameValue.mono _ _ _ _ _ _ _ _ _)
      | (with_reducible exact LeO.refl _)
      | (with_reducible exact LeO.none _)
      | (with_reducible refine LeO.ite ?_ ?_)
      | (with_reducible refine LeO.bind ?_ (fun _ => ?_))
      | exact ih0 _ _ _ _ _ _ _ _ _ _ _
      | exact ih1 _ _ _ _ _ _ _ _ _ _ _ _
      | exact ih2 _ _ _ _ _ _ _ _ _ _ _ _ _ _ _ _
      | exact ih3 _ _ _ _ _ _ _ _ _ _ _ _
      | exact polyglotkit_LightValue.mono _ _ _ _ _
      | exact polyglotkit_SameValue.mono _ _ _ _ _ _ _ _ _
      | exact LeO.none _
      | refine LeO.ite ?_ ?_
      | refine LeO.bind ?_ (fun _ => ?_)
    · intro y0 y1 y2 y3 y4 y5 y6 y7 y8 y9 y10 y11
      unfold polyglotlaw16_AmqprimWidths.j3
      repeat' first
      | (with_reducible exact ih0 _ _ _ _ _ _ _ _ _ _ _)
      | (with_reducible exact ih1 _ _ _ _ _ _ _ _ _ _ _ _)
      | (with_reducible exact ih2 _ _ _ _ _ _ _ _ _ _ _ _ _ _ _ _)
      | (with_reducible exact ih3 _ _ _ _ _ _ _ _ _ _ _ _)
      | (with_reducible exact polyglotkit_LightValue.mono _ _ _ _ _)
      | (with_reducible exact polyglotkit_SameValue.mono _ _ _ _ _ _ _ _ _)
      | (with_reducible exact LeO.refl _)
      | (with_reducible exact LeO.none _)
      | (with_reducible refine LeO.ite ?_ ?_)
      | (with_reducible refine LeO.bind ?_ (fun _ => ?_))
      | exact ih0 _ _ _ _ _ _ _ _ _ _ _
      | exact ih1 _ _ _ _ _ _ _ _ _ _ _ _
      | exact ih2 _ _ _ _ _ _ _ _ _ _ _ _ _ _ _ _
      | exact ih3 _ _ _ _ _ _ _ _ _ _ _ _
      | exact polyglotkit_LightValue.mono _ _ _ _ _
      | exact polyglotkit_SameValue.mono _ _ _ _ _ _ _ _ _
      | exact LeO.none _
      | refine LeO.ite ?_ ?_
      | refine LeO.bind ?_ (fun _ => ?_)
theorem polyglotlaw16_AmqprimWidths.mono : ∀ a0 a1 a2 a3 a4 a5 a6 a7 a8 a9 k, LeO (polyglotlaw16_AmqprimWidths.f k a0 a1 a2 a3 a4 a5 a6 a7 a8 a9) (polyglotlaw16_AmqprimWidths.f (k + 1) a0 a1 a2 a3 a4 a5 a6 a7 a8 a9) := by
  intro a0 a1 a2 a3 a4 a5 a6 a7 a8 a9 k
  obtain ⟨ih0, ih1, ih2, ih3⟩ := polyglotlaw16_AmqprimWidths.mono_l k
  unfold polyglotlaw16_AmqprimWidths.f
  repeat' first
      | (with_reducible exact ih0 _ _ _ _ _ _ _ _ _ _ _)
      | (with_reducible exact ih1 _ _ _ _ _ _ _ _ _ _ _ _)
      | (with_reducible exact ih2 _ _ _ _ _ _ _ _ _ _ _ _ _ _ _ _)
      | (with_reducible exact ih3 _ _ _ _ _ _ _ _ _ _ _ _)
      | (with_reducible exact polyglotkit_LightValue.mono _ _ _ _ _)
      | (with_reducible exact polyglotkit_SameValue.mono _ _ _ _ _ _ _ _ _)
      | (with_reducible exact LeO.refl _)
      | (with_reducible exact LeO.none _)
      | (with_reducible refine LeO.ite ?_ ?_)
      | (with_reducible refine LeO.bind ?_ (fun _ => ?_))
      | exact ih0 _ _ _ _ _ _ _ _ _ _ _
      | exact ih1 _ _ _ _ _ _ _ _ _ _ _ _
      | exact ih2 _ _ _ _ _ _ _ _ _ _ _ _ _ _ _ _
      | exact ih3 _ _ _ _ _ _ _ _ _ _ _ _
      | exact polyglotkit_LightValue.mono _ _ _ _ _
      | exact polyglotkit_SameValue.mono _ _ _ _ _ _ _ _ _
      | exact LeO.none _
      | refine LeO.ite ?_ ?_
      | refine LeO.bind ?_ (fun _ => ?_)
end Go.Proofs.YtekpofpgkokoiaaDoor.Q
