-- PRINTED by print.py (a twelfth state) out of the translation. Not trusted: Lean checks it.
import Derived.Test.YtekpofpgkokoiaaDoorQ0
import Derived.Test.YtekpofpgkokoiaaDoorQpolyglotkitaD
import Derived.Test.YtekpofpgkokoiaaDoorQlaw16livesaD
import Derived.Test.YtekpofpgkokoiaaDoorQkitSameaD
import Derived.Test.YtekpofpgkokoiaaDoorQamqprimaD
namespace Go.Proofs.YtekpofpgkokoiaaDoor.Q
open Go.RowKit Go.Proofs.YtekpofpgkokoiaaDoor.M Go.Proofs.YtekpofpgkokoiaaDoorW.PrintWords Go.Proofs.YtekpofpgkokoiaaDoorW.PrintLast Go.Proofs.YtekpofpgkokoiaaDoorW.PrintMore
attribute [local go_sem] max2_int min2_int max_two min_two max_three min_three max_four min_four   -- for this text's walks alone
set_option linter.unusedVariables false
set_option linter.unusedSimpArgs false

mutual
def polyglotlaw16_AmqprimBack.j0 : Nat → ByteArray → Int → Bool → Int → Int → ByteArray → List (Vl) → Option (Bool)
  | 0, _, _, _, _, _, _, _ => none
  | k + 1, x1, x2, x31, x996000, x996001, x996002, x996003 => if x31 = true then (some true) else ((amqprim_Least.f x996000 x996001 x996002 x996003).bind fun bt998 => ((amqprim_Codes.f x996000).bind fun t1000 => (polyglotlaw16_AmqprimBack.l0 k x1 x2 bt998.1 bt998.2 (-1) t1000 0 x996000 x996001 x996002 x996003)))
def polyglotlaw16_AmqprimBack.l0 : Nat → ByteArray → Int → Int → Int → Int → List Int → Int → Int → Int → ByteArray → List (Vl) → Option (Bool)
  | 0, _, _, _, _, _, _, _, _, _, _, _ => none
  | k + 1, x1, x2, x7, x8, x9, x10, x11, x996000, x996001, x996002, x996003 => if x11 < (x10.length : Int) then (if 0 ≤ x11 then ((amqprim_Put.f (rd x10 x11) x996000 x996001 x996002 x996003).bind fun bt1004 => ((amqprim_Fits.f (rd x10 x11) x996000 x996001 x996002 x996003).bind fun t1007 => (if ((bt1004.2 == 0) != t1007) = true then (none) else (if bt1004.2 = 0 then (if x8 = 0 then (if x9 < 0 then (if (rd x10 x11) = x7 then (if x9 ≥ 0 then (polyglotlaw16_AmqprimBack.j2 k x1 x2 x7 x8 x9 x10 x11 bt1004.1 (decide ((bt1004.1.size : Int) < x9)) x996000 x996001 x996002 x996003) else (polyglotlaw16_AmqprimBack.j2 k x1 x2 x7 x8 x9 x10 x11 bt1004.1 false x996000 x996001 x996002 x996003)) else (polyglotlaw16_AmqprimBack.j2 k x1 x2 x7 x8 x9 x10 x11 bt1004.1 true x996000 x996001 x996002 x996003)) else (if x9 ≥ 0 then (polyglotlaw16_AmqprimBack.j2 k x1 x2 x7 x8 x9 x10 x11 bt1004.1 (decide ((bt1004.1.size : Int) < x9)) x996000 x996001 x996002 x996003) else (polyglotlaw16_AmqprimBack.j2 k x1 x2 x7 x8 x9 x10 x11 bt1004.1 false x996000 x996001 x996002 x996003))) else (polyglotlaw16_AmqprimBack.j2 k x1 x2 x7 x8 x9 x10 x11 bt1004.1 true x996000 x996001 x996002 x996003)) else (polyglotlaw16_AmqprimBack.l0 k x1 x2 x7 x8 x9 x10 (wrap64 (x11 + 1)) x996000 x996001 x996002 x996003))))) else (none)) else (if x8 = 0 then (polyglotlaw16_AmqprimBack.j4 k x1 x2 (decide (x9 < 0))) else (polyglotlaw16_AmqprimBack.j4 k x1 x2 false))
def polyglotlaw16_AmqprimBack.j2 : Nat → ByteArray → Int → Int → Int → Int → List Int → Int → ByteArray → Bool → Int → Int → ByteArray → List (Vl) → Option (Bool)
  | 0, _, _, _, _, _, _, _, _, _, _, _, _, _ => none
  | k + 1, x1, x2, x7, x8, x9, x10, x11, x12, x89, x996000, x996001, x996002, x996003 => if x89 = true then (none) else (if x9 < 0 then (polyglotlaw16_AmqprimBack.j3 k x1 x2 x7 x8 (x12.size : Int) x10 x11 x12 x996000 x996001 x996002 x996003) else (polyglotlaw16_AmqprimBack.j3 k x1 x2 x7 x8 x9 x10 x11 x12 x996000 x996001 x996002 x996003))
def polyglotlaw16_AmqprimBack.j3 : Nat → ByteArray → Int → Int → Int → Int → List Int → Int → ByteArray → Int → Int → ByteArray → List (Vl) → Option (Bool)
  | 0, _, _, _, _, _, _, _, _, _, _, _, _ => none
  | k + 1, x1, x2, x7, x8, x9, x10, x11, x12, x996000, x996001, x996002, x996003 => if 0 ≤ x11 then (if x11 < (x10.length : Int) then (if x12.size + x1.size ≤ 9223372036854775807 then ((amqprim_Get.f k (rd x10 x11) (x12 ++ x1)).bind fun bt1010 => (if bt1010.2.2.2.2.2 = 0 then (if bt1010.2.2.2.2.1 = (x12.size : Int) then ((polyglotkit_SameValue.f k bt1010.1 bt1010.2.1 bt1010.2.2.1 bt1010.2.2.2.1 x996000 x996001 x996002 x996003).bind fun t1019 => (if t1019 = true then (polyglotlaw16_AmqprimBack.l0 k x1 x2 x7 x8 x9 x10 (wrap64 (x11 + 1)) x996000 x996001 x996002 x996003) else (none))) else (none)) else (none))) else (none)) else (none)) else (none)
def polyglotlaw16_AmqprimBack.j4 : Nat → ByteArray → Int → Bool → Option (Bool)
  | 0, _, _, _ => none
  | k + 1, x1, x2, x125 => if x125 = true then (none) else ((amqprim_Get.f k x2 x1).bind fun bt1020 => (if bt1020.2.2.2.2.2 = 0 then ((amqprim_Put.f x2 bt1020.1 bt1020.2.1 bt1020.2.2.1 bt1020.2.2.2.1).bind fun bt1029 => (if bt1020.2.2.2.2.1 ≥ 0 then (if bt1020.2.2.2.2.1 ≤ (x1.size : Int) then ((amqprim_Check.f bt1020.1 bt1020.2.1 bt1020.2.2.1 bt1020.2.2.2.1).bind fun t1031 => (if t1031 = 0 then (if bt1029.2 = 0 then (if 0 ≤ bt1020.2.2.2.2.1 then (some (bt1029.1.toList == (x1.extract 0 (bt1020.2.2.2.2.1 : Int).toNat).toList)) else (none)) else (none)) else (none))) else (none)) else (none))) else (some (bt1020.2.2.2.2.1 == 0))))
end
def polyglotlaw16_AmqprimBack.f (k : Nat) (a0_0 : Int) (a0_1 : Int) (a0_2 : ByteArray) (l0_3 : List (Vl)) (a1 : ByteArray) (a2 : Int) : Option (Bool) := (polyglotlaw16_lives.f).bind fun t996 => (if t996 = true then ((polyglotkit_LightValue.f k a0_0 a0_1 a0_2 l0_3).bind fun t997 => (if t997 = true then (polyglotlaw16_AmqprimBack.j0 k a1 a2 (decide ((a1.size : Int) > 600)) a0_0 a0_1 a0_2 l0_3) else (polyglotlaw16_AmqprimBack.j0 k a1 a2 true a0_0 a0_1 a0_2 l0_3))) else (none))
theorem polyglotlaw16_AmqprimBack.mono_l : ∀ k, (∀ y0 y1 y2 y3 y4 y5 y6, LeO (polyglotlaw16_AmqprimBack.j0 k y0 y1 y2 y3 y4 y5 y6) (polyglotlaw16_AmqprimBack.j0 (k + 1) y0 y1 y2 y3 y4 y5 y6)) ∧ (∀ y0 y1 y2 y3 y4 y5 y6 y7 y8 y9 y10, LeO (polyglotlaw16_AmqprimBack.l0 k y0 y1 y2 y3 y4 y5 y6 y7 y8 y9 y10) (polyglotlaw16_AmqprimBack.l0 (k + 1) y0 y1 y2 y3 y4 y5 y6 y7 y8 y9 y10)) ∧ (∀ y0 y1 y2 y3 y4 y5 y6 y7 y8 y9 y10 y11 y12, LeO (polyglotlaw16_AmqprimBack.j2 k y0 y1 y2 y3 y4 y5 y6 y7 y8 y9 y10 y11 y12) (polyglotlaw16_AmqprimBack.j2 (k + 1) y0 y1 y2 y3 y4 y5 y6 y7 y8 y9 y10 y11 y12)) ∧ (∀ y0 y1 y2 y3 y4 y5 y6 y7 y8 y9 y10 y11, LeO (polyglotlaw16_AmqprimBack.j3 k y0 y1 y2 y3 y4 y5 y6 y7 y8 y9 y10 y11) (polyglotlaw16_AmqprimBack.j3 (k + 1) y0 y1 y2 y3 y4 y5 y6 y7 y8 y9 y10 y11)) ∧ (∀ y0 y1 y2, LeO (polyglotlaw16_AmqprimBack.j4 k y0 y1 y2) (polyglotlaw16_AmqprimBack.j4 (k + 1) y0 y1 y2))
  | 0 => ⟨fun _ _ _ _ _ _ _ r h => by simp [polyglotlaw16_AmqprimBack.j0] at h, fun _ _ _ _ _ _ _ _ _ _ _ r h => by simp [polyglotlaw16_AmqprimBack.l0] at h, fun _ _ _ _ _ _ _ _ _ _ _ _ _ r h => by simp [polyglotlaw16_AmqprimBack.j2] at h, fun _ _ _ _ _ _ _ _ _ _ _ _ r h => by simp [polyglotlaw16_AmqprimBack.j3] at h, fun _ _ _ r h => by simp [polyglotlaw16_AmqprimBack.j4] at h⟩
  | k + 1 => by
    obtain ⟨ih0, ih1, ih2, ih3, ih4⟩ := polyglotlaw16_AmqprimBack.mono_l k
    refine ⟨?_, ?_, ?_, ?_, ?_⟩
    · intro y0 y1 y2 y3 y4 y5 y6
      unfold polyglotlaw16_AmqprimBack.j0
      repeat' first
      | (with_reducible exact ih0 _ _ _ _ _ _ _)
      | (with_reducible exact ih1 _ _ _ _ _ _ _ _ _ _ _)
      | (with_reducible exact ih2 _ _ _ _ _ _ _ _ _ _ _ _ _)
      | (with_reducible exact ih3 _ _ _ _ _ _ _ _ _ _ _ _)
      | (with_reducible exact ih4 _ _ _)
      | (with_reducible exact amqprim_Get.mono _ _ _)
      | (with_reducible exact polyglotkit_LightValue.mono _ _ _ _ _)
      | (with_reducible exact polyglotkit_SameValue.mono _ _ _ _ _ _ _ _ _)
      | (with_reducible exact LeO.refl _)
      | (with_reducible exact LeO.none _)
      | (with_reducible refine LeO.ite ?_ ?_)
      | (with_reducible refine LeO.bind ?_ (fun _ => ?_))
      | exact ih0 _ _ _ _ _ _ _
      | exact ih1 _ _ _ _ _ _ _ _ _ _ _
      | exact ih2 _ _ _ _ _ _ _ _ _ _ _ _ _
      | exact ih3 _ _ _ _ _ _ _ _ _ _ _ _
      | exact ih4 _ _ _
      | exact amqprim_Get.mono _ _ _
      | exact polyglotkit_LightValue.mono _ _ _ _ _
      | exact polyglotkit_SameValue.mono _ _ _ _ _ _ _ _ _
      | exact LeO.none _
      | refine LeO.ite ?_ ?_
      | refine LeO.bind ?_ (fun _ => ?_)
    · intro y0 y1 y2 y3 y4 y5 y6 y7 y8 y9 y10
      unfold polyglotlaw16_AmqprimBack.l0
      repeat' first
      | (with_reducible exact ih0 _ _ _ _ _ _ _)
      | (with_reducible exact ih1 _ _ _ _ _ _ _ _ _ _ _)
      | (with_reducible exact ih2 _ _ _ _ _ _ _ _ _ _ _ _ _)
      | (with_reducible exact ih3 _ _ _ _ _ _ _ _ _ _ _ _)
      | (with_reducible exact ih4 _ _ _)
      | (with_reducible exact amqprim_Get.mono _ _ _)
      | (with_reducible exact polyglotkit_LightValue.mono _ _ _ _ _)
      | (with_reducible exact polyglotkit_SameValue.mono _ _ _ _ _ _ _ _ _)
      | (with_reducible exact LeO.refl _)
      | (with_reducible exact LeO.none _)
      | (with_reducible refine LeO.ite ?_ ?_)
      | (with_reducible refine LeO.bind ?_ (fun _ => ?_))
      | exact ih0 _ _ _ _ _ _ _
      | exact ih1 _ _ _ _ _ _ _ _ _ _ _
      | exact ih2 _ _ _ _ _ _ _ _ _ _ _ _ _
      | exact ih3 _ _ _ _ _ _ _ _ _ _ _ _
      | exact ih4 _ _ _
      | exact amqprim_Get.mono _ _ _
      | exact polyglotkit_LightValue.mono _ _ _ _ _
      | exact polyglotkit_SameValue.mono _ _ _ _ _ _ _ _ _
      | exact LeO.none _
      | refine LeO.ite ?_ ?_
      | refine LeO.bind ?_ (fun _ => ?_)
    · intro y0 y1 y2 y3 y4 y5 y6 y7 y8 y9 y10 y11 y12
      unfold polyglotlaw16_AmqprimBack.j2
      repeat' first
      | (with_reducible exact ih0 _ _ _ _ _ _ _)
      | (with_reducible exact ih1 _ _ _ _ _ _ _ _ _ _ _)
      | (with_reducible exact ih2 _ _ _ _ _ _ _ _ _ _ _ _ _)
      | (with_reducible exact ih3 _ _ _ _ _ _ _ _ _ _ _ _)
      | (with_reducible exact ih4 _ _ _)
      | (with_reducible exact amqprim_Get.mono _ _ _)
      | (with_reducible exact polyglotkit_LightValue.mono _ _ _ _ _)
      | (with_reducible exact polyglotkit_SameValue.mono _ _ _ _ _ _ _ _ _)
      | (with_reducible exact LeO.refl _)
      | (with_reducible exact LeO.none _)
      | (with_reducible refine LeO.ite ?_ ?_)
      | (with_reducible refine LeO.bind ?_ (fun _ => ?_))
      | exact ih0 _ _ _ _ _ _ _
      | exact ih1 _ _ _ _ _ _ _ _ _ _ _
      | exact ih2 _ _ _ _ _ _ _ _ _ _ _ _ _
      | exact ih3 _ _ _ _ _ _ _ _ _ _ _ _
      | exact ih4 _ _ _
      | exact amqprim_Get.mono _ _ _
      | exact polyglotkit_LightValue.mono _ _ _ _ _
      | exact polyglotkit_SameValue.mono _ _ _ _ _ _ _ _ _
      | exact LeO.none _
      | refine LeO.ite ?_ ?_
      | refine LeO.bind ?_ (fun _ => ?_)
    · intro y0 y1 y2 y3 y4 y5 y6 y7 y8 y9 y10 y11
      unfold polyglotlaw16_AmqprimBack.j3
      repeat' first
      | (with_reducible exact ih0 _ _ _ _ _ _ _)
      | (with_reducible exact ih1 _ _ _ _ _ _ _ _ _ _ _)
      | (with_reducible exact ih2 _ _ _ _ _ _ _ _ _ _ _ _ _)
      | (with_reducible exact ih3 _ _ _ _ _ _ _ _ _ _ _ _)
      | (with_reducible exact ih4 _ _ _)
      | (with_reducible exact amqprim_Get.mono _ _ _)
      | (with_reducible exact polyglotkit_LightValue.mono _ _ _ _ _)
      | (with_reducible exact polyglotkit_SameValue.mono _ _ _ _ _ _ _ _ _)
      | (with_reducible exact LeO.refl _)
      | (with_reducible exact LeO.none _)
      | (with_reducible refine LeO.ite ?_ ?_)
      | (with_reducible refine LeO.bind ?_ (fun _ => ?_))
      | exact ih0 _ _ _ _ _ _ _
      | exact ih1 _ _ _ _ _ _ _ _ _ _ _
      | exact ih2 _ _ _ _ _ _ _ _ _ _ _ _ _
      | exact ih3 _ _ _ _ _ _ _ _ _ _ _ _
      | exact ih4 _ _ _
      | exact amqprim_Get.mono _ _ _
      | exact polyglotkit_LightValue.mono _ _ _ _ _
      | exact polyglotkit_SameValue.mono _ _ _ _ _ _ _ _ _
      | exact LeO.none _
      | refine LeO.ite ?_ ?_
      | refine LeO.bind ?_ (fun _ => ?_)
    · intro y0 y1 y2
      unfold polyglotlaw16_AmqprimBack.j4
      repeat' first
      | (with_reducible exact ih0 _ _ _ _ _ _ _)
      | (with_reducible exact ih1 _ _ _ _ _ _ _ _ _ _ _)
      | (with_reducible exact ih2 _ _ _ _ _ _ _ _ _ _ _ _ _)
      | (with_reducible exact ih3 _ _ _ _ _ _ _ _ _ _ _ _)
      | (with_reducible exact ih4 _ _ _)
      | (with_reducible exact amqprim_Get.mono _ _ _)
      | (with_reducible exact polyglotkit_LightValue.mono _ _ _ _ _)
      | (with_reducible exact polyglotkit_SameValue.mono _ _ _ _ _ _ _ _ _)
      | (with_reducible exact LeO.refl _)
      | (with_reducible exact LeO.none _)
      | (with_reducible refine LeO.ite ?_ ?_)
      | (with_reducible refine LeO.bind ?_ (fun _ => ?_))
      | exact ih0 _ _ _ _ _ _ _
      | exact ih1 _ _ _ _ _ _ _ _ _ _ _
      | exact ih2 _ _ _ _ _ _ _ _ _ _ _ _ _
      | exact ih3 _ _ _ _ _ _ _ _ _ _ _ _
      | exact ih4 _ _ _
      | exact amqprim_Get.mono _ _ _
      | exact polyglotkit_LightValue.mono _ _ _ _ _
      | exact polyglotkit_SameValue.mono _ _ _ _ _ _ _ _ _
      | exact LeO.none _
      | refine LeO.ite ?_ ?_
      | refine LeO.bind ?_ (fun _ => ?_)
theorem polyglotlaw16_AmqprimBack.mono : ∀ a0 a1 a2 a3 a4 a5 k, LeO (polyglotlaw16_AmqprimBack.f k a0 a1 a2 a3 a4 a5) (polyglotlaw16_AmqprimBack.f (k + 1) a0 a1 a2 a3 a4 a5) := by
  intro a0 a1 a2 a3 a4 a5 k
  obtain ⟨ih0, ih1, ih2, ih3, ih4⟩ := polyglotlaw16_AmqprimBack.mono_l k
  unfold polyglotlaw16_AmqprimBack.f
  repeat' first
      | (with_reducible exact ih0 _ _ _ _ _ _ _)
      | (with_reducible exact ih1 _ _ _ _ _ _ _ _ _ _ _)
      | (with_reducible exact ih2 _ _ _ _ _ _ _ _ _ _ _ _ _)
      | (with_reducible exact ih3 _ _ _ _ _ _ _ _ _ _ _ _)
      | (with_reducible exact ih4 _ _ _)
      | (with_reducible exact amqprim_Get.mono _ _ _)
      | (with_reducible exact polyglotkit_LightValue.mono _ _ _ _ _)
      | (with_reducible exact polyglotkit_SameValue.mono _ _ _ _ _ _ _ _ _)
      | (with_reducible exact LeO.refl _)
      | (with_reducible exact LeO.none _)
      | (with_reducible refine LeO.ite ?_ ?_)
      | (with_reducible refine LeO.bind ?_ (fun _ => ?_))
      | exact ih0 _ _ _ _ _ _ _
      | exact ih1 _ _ _ _ _ _ _ _ _ _ _
      | exact ih2 _ _ _ _ _ _ _ _ _ _ _ _ _
      | exact ih3 _ _ _ _ _ _ _ _ _ _ _ _
      | exact ih4 _ _ _
      | exact amqprim_Get.mono _ _ _
      | exact polyglotkit_LightValue.mono _ _ _ _ _
      | exact polyglotkit_SameValue.mono _ _ _ _ _ _ _ _ _
      | exact LeO.none _
      | refine LeO.ite ?_ ?_
      | refine LeO.bind ?_ (fun _ => ?_)
end Go.Proofs.YtekpofpgkokoiaaDoor.Q
