-- PRINTED by print.py (a twelfth state) out of the translation. Not trusted: Lean checks it.
import Derived.Test.YtekpofpgkokoiaaDoorQ0
namespace Go.Proofs.YtekpofpgkokoiaaDoor.Q
open Go.RowKit Go.Proofs.YtekpofpgkokoiaaDoor.M Go.Proofs.YtekpofpgkokoiaaDoorW.PrintWords Go.Proofs.YtekpofpgkokoiaaDoorW.PrintLast Go.Proofs.YtekpofpgkokoiaaDoorW.PrintMore
attribute [local go_sem] max2_int min2_int max_two min_two max_three min_three max_four min_four   -- for this text's walks alone
set_option linter.unusedVariables false
set_option linter.unusedSimpArgs false

def polyglotkit_N.f (a0 : Int) (a1 : Int) : Option (Int × Int × ByteArray × (List (Vl))) := some (a0, a1, (⟨#[]⟩ : ByteArray), ([] : List (Vl)))
mutual
def polyglotkit_nodes.j0 : Nat → Int → Int → Bool → Int → Int → ByteArray → List (Vl) → Option (Int)
  | 0, _, _, _, _, _, _, _ => none
  | k + 1, x1, x2, x23, x127000, x127001, x127002, x127003 => if x23 = true then (some (wrap64 (x2 + 1))) else (polyglotkit_nodes.l0 k x1 x2 1 0 x127000 x127001 x127002 x127003)
def polyglotkit_nodes.l0 : Nat → Int → Int → Int → Int → Int → Int → ByteArray → List (Vl) → Option (Int)
  | 0, _, _, _, _, _, _, _, _ => none
  | k + 1, x1, x2, x7, x8, x127000, x127001, x127002, x127003 => if x8 < (x127003.length : Int) then (if x7 ≤ x2 then (if 0 ≤ x8 then ((polyglotkit_nodes.f k ((rdV x127003 x8).kind) ((rdV x127003 x8).n) ((rdV x127003 x8).text) ((rdV x127003 x8).items) (wrap64 (x1 - 1)) (wrap64 (x2 - x7))).bind fun t128 => (polyglotkit_nodes.l0 k x1 x2 (wrap64 (x7 + t128)) (wrap64 (x8 + 1)) x127000 x127001 x127002 x127003)) else (none)) else (some x7)) else (some x7)
def polyglotkit_nodes.f : Nat → Int → Int → ByteArray → List (Vl) → Int → Int → Option (Int)
  | 0, _, _, _, _, _, _ => none
  | k + 1, a0_0, a0_1, a0_2, l0_3, a1, a2 => if a1 < 0 then (polyglotkit_nodes.j0 k a1 a2 true a0_0 a0_1 a0_2 l0_3) else (if (l0_3.length : Int) > a2 then (polyglotkit_nodes.j0 k a1 a2 true a0_0 a0_1 a0_2 l0_3) else (polyglotkit_nodes.j0 k a1 a2 (decide ((a0_2.size : Int) > 400)) a0_0 a0_1 a0_2 l0_3))
end
theorem polyglotkit_nodes.mono_l : ∀ k, (∀ y0 y1 y2 y3 y4 y5, LeO (polyglotkit_nodes.f k y0 y1 y2 y3 y4 y5) (polyglotkit_nodes.f (k + 1) y0 y1 y2 y3 y4 y5)) ∧ (∀ y0 y1 y2 y3 y4 y5 y6, LeO (polyglotkit_nodes.j0 k y0 y1 y2 y3 y4 y5 y6) (polyglotkit_nodes.j0 (k + 1) y0 y1 y2 y3 y4 y5 y6)) ∧ (∀ y0 y1 y2 y3 y4 y5 y6 y7, LeO (polyglotkit_nodes.l0 k y0 y1 y2 y3 y4 y5 y6 y7) (polyglotkit_nodes.l0 (k + 1) y0 y1 y2 y3 y4 y5 y6 y7))
  | 0 => ⟨fun _ _ _ _ _ _ r h => by simp [polyglotkit_nodes.f] at h, fun _ _ _ _ _ _ _ r h => by simp [polyglotkit_nodes.j0] at h, fun _ _ _ _ _ _ _ _ r h => by simp [polyglotkit_nodes.l0] at h⟩
  | k + 1 => by
    obtain ⟨ih0, ih1, ih2⟩ := polyglotkit_nodes.mono_l k
    refine ⟨?_, ?_, ?_⟩
    · intro y0 y1 y2 y3 y4 y5
      unfold polyglotkit_nodes.f
      repeat' first
      | (with_reducible exact ih0 _ _ _ _ _ _)
      | (with_reducible exact ih1 _ _ _ _ _ _ _)
      | (with_reducible exact ih2 _ _ _ _ _ _ _ _)
      | (with_reducible exact LeO.refl _)
      | (with_reducible exact LeO.none _)
      | (with_reducible refine LeO.ite ?_ ?_)
      | (with_reducible refine LeO.bind ?_ (fun _ => ?_))
      | exact ih0 _ _ _ _ _ _
      | exact ih1 _ _ _ _ _ _ _
      | exact ih2 _ _ _ _ _ _ _ _
      | exact LeO.none _
      | refine LeO.ite ?_ ?_
      | refine LeO.bind ?_ (fun _ => ?_)
    · intro y0 y1 y2 y3 y4 y5 y6
      unfold polyglotkit_nodes.j0
      repeat' first
      | (with_reducible exact ih0 _ _ _ _ _ _)
      | (with_reducible exact ih1 _ _ _ _ _ _ _)
      | (with_reducible exact ih2 _ _ _ _ _ _ _ _)
      | (with_reducible exact LeO.refl _)
      | (with_reducible exact LeO.none _)
      | (with_reducible refine LeO.ite ?_ ?_)
      | (with_reducible refine LeO.bind ?_ (fun _ => ?_))
      | exact ih0 _ _ _ _ _ _
      | exact ih1 _ _ _ _ _ _ _
      | exact ih2 _ _ _ _ _ _ _ _
      | exact LeO.none _
      | refine LeO.ite ?_ ?_
      | refine LeO.bind ?_ (fun _ => ?_)
    · intro y0 y1 y2 y3 y4 y5 y6 y7
      unfold polyglotkit_nodes.l0
      repeat' first
      | (with_reducible exact ih0 _ _ _ _ _ _)
      | (with_reducible exact ih1 _ _ _ _ _ _ _)
      | (with_reducible exact ih2 _ _ _ _ _ _ _ _)
      | (with_reducible exact LeO.refl _)
      | (with_reducible exact LeO.none _)
      | (with_reducible refine LeO.ite ?_ ?_)
      | (with_reducible refine LeO.bind ?_ (fun _ => ?_))
      | exact ih0 _ _ _ _ _ _
      | exact ih1 _ _ _ _ _ _ _
      | exact ih2 _ _ _ _ _ _ _ _
      | exact LeO.none _
      | refine LeO.ite ?_ ?_
      | refine LeO.bind ?_ (fun _ => ?_)
theorem polyglotkit_nodes.mono : ∀ a0 a1 a2 a3 a4 a5 k, LeO (polyglotkit_nodes.f k a0 a1 a2 a3 a4 a5) (polyglotkit_nodes.f (k + 1) a0 a1 a2 a3 a4 a5) := by
  intro a0 a1 a2 a3 a4 a5 k
  obtain ⟨ih0, ih1, ih2⟩ := polyglotkit_nodes.mono_l k
  exact ih0 a0 a1 a2 a3 a4 a5
def polyglotkit_LightValue.f (k : Nat) (a0_0 : Int) (a0_1 : Int) (a0_2 : ByteArray) (l0_3 : List (Vl)) : Option (Bool) := (polyglotkit_nodes.f k a0_0 a0_1 a0_2 l0_3 6 40).bind fun t130 => (some (decide (t130 ≤ 40)))
theorem polyglotkit_LightValue.mono : ∀ a0 a1 a2 a3 k, LeO (polyglotkit_LightValue.f k a0 a1 a2 a3) (polyglotkit_LightValue.f (k + 1) a0 a1 a2 a3) := by
  intro a0 a1 a2 a3 k
  unfold polyglotkit_LightValue.f
  repeat' first
      | (with_reducible exact polyglotkit_nodes.mono _ _ _ _ _ _ _)
      | (with_reducible exact LeO.refl _)
      | (with_reducible exact LeO.none _)
      | (with_reducible refine LeO.ite ?_ ?_)
      | (with_reducible refine LeO.bind ?_ (fun _ => ?_))
      | exact polyglotkit_nodes.mono _ _ _ _ _ _ _
      | exact LeO.none _
      | refine LeO.ite ?_ ?_
      | refine LeO.bind ?_ (fun _ => ?_)
def polyglotkit_Pick.f (a0 : Int) (a1 : Int) : Option (Int) := if a1 < 1 then (some 0) else (if a1 = 0 then (none) else (if (Int.tmod a0 a1) < 0 then (some (wrap64 ((Int.tmod a0 a1) + a1))) else (some (Int.tmod a0 a1))))
def polyglotkit_L.f (l0 : List (Vl)) : Option (Int × Int × ByteArray × (List (Vl))) := some (22, 0, (⟨#[]⟩ : ByteArray), l0)
def polyglotkit_T.f (a0 : Int) (a1 : ByteArray) : Option (Int × Int × ByteArray × (List (Vl))) := some (a0, 0, a1, ([] : List (Vl)))
def polyglotkit_Limits.f  : Option (Int × Int) := some (4096, 6)
end Go.Proofs.YtekpofpgkokoiaaDoor.Q
