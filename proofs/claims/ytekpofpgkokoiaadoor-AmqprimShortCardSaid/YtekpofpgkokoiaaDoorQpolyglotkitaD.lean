-- PRINTED by print.py (a twelfth state) out of the translation. Not trusted: Lean checks it.
import Derived.Test.YtekpofpgkokoiaaDoorQ0
namespace Go.Proofs.YtekpofpgkokoiaaDoor.Q
open Go.RowKit Go.Proofs.YtekpofpgkokoiaaDoor.M Go.Proofs.YtekpofpgkokoiaaDoorW.PrintWords Go.Proofs.YtekpofpgkokoiaaDoorW.PrintLast Go.Proofs.YtekpofpgkokoiaaDoorW.PrintMore
attribute [local go_sem] max2_int min2_int max_two min_two max_three min_three max_four min_four   -- for this text's walks alone
set_option linter.unusedVariables false
set_option linter.unusedSimpArgs false

def polyglotkit_N.f (a0 : Int) (a1 : Int) : Option (Int × Int × ByteArray × (List (Vl))) := some (a0, a1, (⟨#[]⟩ : ByteArray), ([] : List (Vl)))
mutual
def polyglotkit_nodes.j0 : Nat → Int → Int → Bool → Int → Int → ByteArray → List (Vl) → Option (Int)
  | 0, _, _, _, _, _, _, _ => none
  | k + 1, x1, x2, x23, x127000, x127001, x127002, x127003 => if x23 = true then (some (wrap64 (x2 + 1))) else (polyglotkit_nodes.l0 k x1 x2 1 0 x127000 x127001 x127002 x127003)
def polyglotkit_nodes.l0 : Nat → Int → Int → Int → Int → Int → Int → ByteArray → List (Vl) → Option (Int)
  | 0, _, _, _, _, _, _, _, _ => none
  | k + 1, x1, x2, x7, x8, x127000, x127001, x127002, x127003 => if x8 < (x127003.length : Int) then (if x7 ≤ x2 then (if 0 ≤ x8 then ((polyglotkit_nodes.f k ((rdV x127003 x8).kind) ((rdV x127003 x8).n) ((rdV x127003 x8).text) ((rdV x127003 x8).items) (wrap64 (x1 - 1)) (wrap64 (x2 - x7))).bind fun t128 => (polyglotkit_nodes.l0 k x1 x2 (wrap64 (x7 + t128)) (wrap64 (x8 + 1)) x127000 x127001 x127002 x127003)) else (none)) else (some x7)) else (some x7)
def polyglotkit_nodes.f : Nat → Int → Int → ByteArray → List (Vl) → Int → Int → Option (Int)
  | 0, _, _, _, _, _, _ => none
  | k + 1, a0_0, a0_1, a0_2, l0_3, a1, a2 => if a1 < 0 then (polyglotkit_nodes.j0 k a1 a2 true a0_0 a0_1 a0_2 l0_3) else (if (l0_3.length : Int) > a2 then (polyglotkit_nodes.j0 k a1 a2 true a0_0 a0_1 a0_2 l0_3) else (polyglotkit_nodes.j0 k a1 a2 (decide ((a0_2.size : Int) > 400)) a0_0 a0_1 a0_2 l0_3))
end
theorem polyglotkit_nodes.mono_l : ∀ k, (∀ y0 y1 y2 y3 y4 y5, LeO (polyglotkit_nodes.f k y0 y1 y2 y3 y4 y5) (polyglotkit_nodes.f (k + 1) y0 y1 y2 y3 y4 y5)) ∧ (∀ y0 y1 y2 y3 y4 y5 y6, LeO (polyglotkit_nodes.j0 k y0 y1 y2 y3 y4 y5 y6) (polyglotkit_nodes.j0 (k + 1) y0 y1 y2 y3 y4 y5 y6)) ∧ (∀ y0 y1 y2 y3 y4 y5 y6 y7, LeO (polyglotkit_nodes.l0 k y0 y1 y2 y3 y4 y5 y6 y7) (polyglotkit_nodes.l0 (k + 1) y0 y1 y2 y3 y4 y5 y6 y7))
  | 0 => ⟨fun _ _ _ _ _ _ r h => by simp [polyglotkit_nodes.f] at h, fun _ _ _ _ _ _ _ r h => by simp [polyglotkit_nodes.j0] at h, fun _ _ _ _ _ _ _ _ r h => by simp [polyglotkit_nodes.l0] at h⟩
  | k + 1 => by
    obtain ⟨ih0, ih1, ih2⟩ := polyglotkit_nodes.mono_l k
    refine ⟨?_, ?_, ?_⟩
    · intro y0 y1 y2 y3 y4 y5
      unfold polyglotkit_nodes.f
      repeat' first
      | (with_reducible exact ih0 _ _ _ _ _ _)
      | (with_reducible exact ih1 _ _ _ _ _ _ _)
      | (with_reducible exact ih2 _ _ _ _ _ _ _ _)
      | (with_reducible exact LeO.refl _)
      | (with_reducible exact LeO.none _)
      | (with_reducible refine LeO.ite ?_ ?_)
      | (with_reducible refine LeO.bind ?_ (fun _ => ?_))
      | exact ih0 _ _ _ _ _ _
      | exact ih1 _ _ _ _ _ _ _
      | exact ih2 _ _ _ _ _ _ _ _
      | exact LeO.none _
      | refine LeO.ite ?_ ?_
      | refine LeO.bind ?_ (fun _ => ?_)
    · intro y0 y1 y2 y3 y4 y5 y6
      unfold polyglotkit_nodes.j0
      repeat' first
      | (with_reducible exact ih0 _ _ _ _ _ _)
      | (with_reducible exact ih1 _ _ _ _ _ _ _)
      | (with_reducible exact ih2 _ _ _ _ _ _ _ _)
      | (with_reducible exact LeO.refl _)
      | (with_reducible exact LeO.none _)
      | (with_reducible refine LeO.ite ?_ ?_)
      | (with_reducible refine LeO.bind ?_ (fun _ => ?_))
      | exact ih0 _ _ _ _ _ _
      | exact ih1 _ _ _ _ _ _ _
      | exact ih2 _ _ _ _ _ _ _ _
      | exact LeO.none _
      | refine LeO.ite ?_ ?_
      | refine LeO.bind ?_ (fun _ => ?_)
    · intro y0 y1 y2 y3 y4 y5 y6 y7
      unfold polyglotkit_nodes.l0
      repeat' first
      | (with_reducible exact ih0 _ _ _ _ _ _)
      | (with_reducible exact ih1 _ _ _ _ _ _ _)
      | (with_reducible exact ih2 _ _ _ _ _ _ _ _)
      | (with_reducible exact LeO.refl _)
      | (with_reducible exact LeO.none _)
      | (with_reducible refine LeO.ite ?_ ?_)
      | (with_reducible refine LeO.bind ?_ (fun _ => ?_))
      | exact ih0 _ _ _ _ _ _
      | exact ih1 _ _ _ _ _ _ _
      | exact ih2 _ _ _ _ _ _ _ _
      | exact LeO.none _
      | refine LeO.ite ?_ ?_
      | refine LeO.bind ?_ (fun _ => ?_)
theorem polyglotkit_nodes.mono : ∀ a0 a1 a2 a3 a4 a5 k, LeO (polyglotkit_nodes.f k a0 a1 a2 a3 a4 a5) (polyglotkit_nodes.f (k + 1) a0 a1 a2 a3 a4 a5) := by
  intro a0 a1 a2 a3 a4 a5 k
  obtain ⟨ih0, ih1, ih2⟩ := polyglotkit_nodes.mono_l k
  exact ih0 a0 a1 a2 a3 a4 a5
def polyglotkit_LightValue.f (k : Nat) (a0_0 : Int) (a0_1 : Int) (a0_2 : ByteArray) (l0_3 : List (Vl)) : Option (Bool) := (polyglotkit_nodes.f k a0_0 a0_1 a0_2 l0_3 6 40).bind fun t130 => (some (decide (t130 ≤ 40)))
theorem polyglotkit_LightValue.mono : ∀ a0 a1 a2 a3 k, LeO (polyglotkit_LightValue.f k a0 a1 a2 a3) (polyglotkit_LightValue.f (k + 1) a0 a1 a2 a3) := by
  intro a0 a1 a2 a3 k
  unfold polyglotkit_LightValue.f
  repeat' first
      | (with_reducible exact polyglotkit_nodes.mono _ _ _ _ _ _ _)
      | (with_reducible exact LeO.refl _)
      | (with_reducible exact LeO.none _)
      | (with_reducible refine LeO.ite ?_ ?_)
      | (with_reducible refine LeO.bind ?_ (fun _ => ?_))
      | exact polyglotkit_nodes.mono _ _ _ _ _ _ _
      | exact LeO.none _
      | refine LeO.ite ?_ ?_
      | refine LeO.bind ?_ (fun _ => ?_)
def polyglotkit_Pick.f (a0 : Int) (a1 : Int) : Option (Int) := if a1 < 1 then (some 0) else (if a1 = 0 then (none) else (if (Int.tmod a0 a1) < 0 then (some (wrap64 ((Int.tmod a0 a1) + a1))) else (some (Int.tmod a0 a1))))
mutual
def polyglotkit_SameValue.j0 : Nat → Bool → Int → Int → ByteArray → List (Vl) → Int → Int → ByteArray → List (Vl) → Option (Bool)
  | 0, _, _, _, _, _, _, _, _, _ => none
  | k + 1, x33, x132000, x132001, x132002, x132003, x133000, x133001, x133002, x133003 => if x33 = true then (some false) else (polyglotkit_SameValue.l0 k 0 x132000 x132001 x132002 x132003 x133000 x133001 x133002 x133003)
def polyglotkit_SameValue.l0 : Nat → Int → Int → Int → ByteArray → List (Vl) → Int → Int → ByteArray → List (Vl) → Option (Bool)
  | 0, _, _, _, _, _, _, _, _, _ => none
  | k + 1, x5, x132000, x132001, x132002, x132003, x133000, x133001, x133002, x133003 => if x5 < (x132003.length : Int) then (if 0 ≤ x5 then (if x5 < (x133003.length : Int) then ((polyglotkit_SameValue.f k ((rdV x132003 x5).kind) ((rdV x132003 x5).n) ((rdV x132003 x5).text) ((rdV x132003 x5).items) ((rdV x133003 x5).kind) ((rdV x133003 x5).n) ((rdV x133003 x5).text) ((rdV x133003 x5).items)).bind fun t135 => (if t135 = true then (polyglotkit_SameValue.l0 k (wrap64 (x5 + 1)) x132000 x132001 x132002 x132003 x133000 x133001 x133002 x133003) else (some false))) else (none)) else (none)) else (some true)
def polyglotkit_SameValue.f : Nat → Int → Int → ByteArray → List (Vl) → Int → Int → ByteArray → List (Vl) → Option (Bool)
  | 0, _, _, _, _, _, _, _, _ => none
  | k + 1, a0_0, a0_1, a0_2, l0_3, a1_0, a1_1, a1_2, l1_3 => if a0_0 = a1_0 then (if a0_1 = a1_1 then (if a0_2.toList = a1_2.toList then (polyglotkit_SameValue.j0 k ((l0_3.length : Int) != (l1_3.length : Int)) a0_0 a0_1 a0_2 l0_3 a1_0 a1_1 a1_2 l1_3) else (polyglotkit_SameValue.j0 k true a0_0 a0_1 a0_2 l0_3 a1_0 a1_1 a1_2 l1_3)) else (polyglotkit_SameValue.j0 k true a0_0 a0_1 a0_2 l0_3 a1_0 a1_1 a1_2 l1_3)) else (polyglotkit_SameValue.j0 k true a0_0 a0_1 a0_2 l0_3 a1_0 a1_1 a1_2 l1_3)
end
theorem polyglotkit_SameValue.mono_l : ∀ k, (∀ y0 y1 y2 y3 y4 y5 y6 y7, LeO (polyglotkit_SameValue.f k y0 y1 y2 y3 y4 y5 y6 y7) (polyglotkit_SameValue.f (k + 1) y0 y1 y2 y3 y4 y5 y6 y7)) ∧ (∀ y0 y1 y2 y3 y4 y5 y6 y7 y8, LeO (polyglotkit_SameValue.j0 k y0 y1 y2 y3 y4 y5 y6 y7 y8) (polyglotkit_SameValue.j0 (k + 1) y0 y1 y2 y3 y4 y5 y6 y7 y8)) ∧ (∀ y0 y1 y2 y3 y4 y5 y6 y7 y8, LeO (polyglotkit_SameValue.l0 k y0 y1 y2 y3 y4 y5 y6 y7 y8) (polyglotkit_SameValue.l0 (k + 1) y0 y1 y2 y3 y4 y5 y6 y7 y8))
  | 0 => ⟨fun _ _ _ _ _ _ _ _ r h => by simp [polyglotkit_SameValue.f] at h, fun _ _ _ _ _ _ _ _ _ r h => by simp [polyglotkit_SameValue.j0] at h, fun _ _ _ _ _ _ _ _ _ r h => by simp [polyglotkit_SameValue.l0] at h⟩
  | k + 1 => by
    obtain ⟨ih0, ih1, ih2⟩ := polyglotkit_SameValue.mono_l k
    refine ⟨?_, ?_, ?_⟩
    · intro y0 y1 y2 y3 y4 y5 y6 y7
      unfold polyglotkit_SameValue.f
      repeat' first
      | (with_reducible exact ih0 _ _ _ _ _ _ _ _)
      | (with_reducible exact ih1 _ _ _ _ _ _ _ _ _)
      | (with_reducible exact ih2 _ _ _ _ _ _ _ _ _)
      | (with_reducible exact LeO.refl _)
      | (with_reducible exact LeO.none _)
      | (with_reducible refine LeO.ite ?_ ?_)
      | (with_reducible refine LeO.bind ?_ (fun _ => ?_))
      | exact ih0 _ _ _ _ _ _ _ _
      | exact ih1 _ _ _ _ _ _ _ _ _
      | exact ih2 _ _ _ _ _ _ _ _ _
      | exact LeO.none _
      | refine LeO.ite ?_ ?_
      | refine LeO.bind ?_ (fun _ => ?_)
    · intro y0 y1 y2 y3 y4 y5 y6 y7 y8
      unfold polyglotkit_SameValue.j0
      repeat' first
      | (with_reducible exact ih0 _ _ _ _ _ _ _ _)
      | (with_reducible exact ih1 _ _ _ _ _ _ _ _ _)
      | (with_reducible exact ih2 _ _ _ _ _ _ _ _ _)
      | (with_reducible exact LeO.refl _)
      | (with_reducible exact LeO.none _)
      | (with_reducible refine LeO.ite ?_ ?_)
      | (with_reducible refine LeO.bind ?_ (fun _ => ?_))
      | exact ih0 _ _ _ _ _ _ _ _
      | exact ih1 _ _ _ _ _ _ _ _ _
      | exact ih2 _ _ _ _ _ _ _ _ _
      | exact LeO.none _
      | refine LeO.ite ?_ ?_
      | refine LeO.bind ?_ (fun _ => ?_)
    · intro y0 y1 y2 y3 y4 y5 y6 y7 y8
      unfold polyglotkit_SameValue.l0
      repeat' first
      | (with_reducible exact ih0 _ _ _ _ _ _ _ _)
      | (with_reducible exact ih1 _ _ _ _ _ _ _ _ _)
      | (with_reducible exact ih2 _ _ _ _ _ _ _ _ _)
      | (with_reducible exact LeO.refl _)
      | (with_reducible exact LeO.none _)
      | (with_reducible refine LeO.ite ?_ ?_)
      | (with_reducible refine LeO.bind ?_ (fun _ => ?_))
      | exact ih0 _ _ _ _ _ _ _ _
      | exact ih1 _ _ _ _ _ _ _ _ _
      | exact ih2 _ _ _ _ _ _ _ _ _
      | exact LeO.none _
      | refine LeO.ite ?_ ?_
      | refine LeO.bind ?_ (fun _ => ?_)
theorem polyglotkit_SameValue.mono : ∀ a0 a1 a2 a3 a4 a5 a6 a7 k, LeO (polyglotkit_SameValue.f k a0 a1 a2 a3 a4 a5 a6 a7) (polyglotkit_SameValue.f (k + 1) a0 a1 a2 a3 a4 a5 a6 a7) := by
  intro a0 a1 a2 a3 a4 a5 a6 a7 k
  obtain ⟨ih0, ih1, ih2⟩ := polyglotkit_SameValue.mono_l k
  exact ih0 a0 a1 a2 a3 a4 a5 a6 a7
def polyglotkit_L.f (l0 : List (Vl)) : Option (Int × Int × ByteArray × (List (Vl))) := some (22, 0, (⟨#[]⟩ : ByteArray), l0)
def polyglotkit_T.f (a0 : Int) (a1 : ByteArray) : Option (Int × Int × ByteArray × (List (Vl))) := some (a0, 0, a1, ([] : List (Vl)))
def polyglotkit_Same_int.l0 : Nat → List Int → List Int → Int → Option (Bool)
  | 0, _, _, _ => none
  | k + 1, x0, x1, x5 => if x5 < (x0.length : Int) then (if 0 ≤ x5 then (if x5 < (x1.length : Int) then (if (rd x0 x5) = (rd x1 x5) then (polyglotkit_Same_int.l0 k x0 x1 (wrap64 (x5 + 1))) else (some false)) else (none)) else (none)) else (some true)
def polyglotkit_Same_int.f (k : Nat) (l0 : List Int) (l1 : List Int) : Option (Bool) := if (l0.length : Int) = (l1.length : Int) then (polyglotkit_Same_int.l0 k l0 l1 0) else (some false)
theorem polyglotkit_Same_int.mono_l : ∀ k, (∀ y0 y1 y2, LeO (polyglotkit_Same_int.l0 k y0 y1 y2) (polyglotkit_Same_int.l0 (k + 1) y0 y1 y2))
  | 0 => fun _ _ _ r h => by simp [polyglotkit_Same_int.l0] at h
  | k + 1 => by
    have ih0 := polyglotkit_Same_int.mono_l k
    · intro y0 y1 y2
      unfold polyglotkit_Same_int.l0
      repeat' first
      | (with_reducible exact ih0 _ _ _)
      | (with_reducible exact LeO.refl _)
      | (with_reducible exact LeO.none _)
      | (with_reducible refine LeO.ite ?_ ?_)
      | (with_reducible refine LeO.bind ?_ (fun _ => ?_))
      | exact ih0 _ _ _
      | exact LeO.none _
      | refine LeO.ite ?_ ?_
      | refine LeO.bind ?_ (fun _ => ?_)
theorem polyglotkit_Same_int.mono : ∀ a0 a1 k, LeO (polyglotkit_Same_int.f k a0 a1) (polyglotkit_Same_int.f (k + 1) a0 a1) := by
  intro a0 a1 k
  have ih0 := polyglotkit_Same_int.mono_l k
  unfold polyglotkit_Same_int.f
  repeat' first
      | (with_reducible exact ih0 _ _ _)
      | (with_reducible exact LeO.refl _)
      | (with_reducible exact LeO.none _)
      | (with_reducible refine LeO.ite ?_ ?_)
      | (with_reducible refine LeO.bind ?_ (fun _ => ?_))
      | exact ih0 _ _ _
      | exact LeO.none _
      | refine LeO.ite ?_ ?_
      | refine LeO.bind ?_ (fun _ => ?_)
mutual
def polyglotkit_OwnValue.l0 : Nat → Int → Int → Int → ByteArray → List (Vl) → Int → Int → ByteArray → List (Vl) → Option (Int × Int × ByteArray × (List (Vl)))
  | 0, _, _, _, _, _, _, _, _, _ => none
  | k + 1, x4, x894000, x894001, x894002, x894003, x896000, x896001, x896002, x896003 => if x4 < (x894003.length : Int) then (if 0 ≤ x4 then ((polyglotkit_OwnValue.f k ((rdV x894003 x4).kind) ((rdV x894003 x4).n) ((rdV x894003 x4).text) ((rdV x894003 x4).items)).bind fun bt897 => (if x896003.length < 2513169434916 then (polyglotkit_OwnValue.l0 k (wrap64 (x4 + 1)) x894000 x894001 x894002 x894003 x896000 x896001 x896002 (x896003 ++ [(⟨bt897.1, bt897.2.1, bt897.2.2.1, bt897.2.2.2⟩ : Vl)])) else (none))) else (none)) else (some (x896000, x896001, x896002, x896003))
def polyglotkit_OwnValue.f : Nat → Int → Int → ByteArray → List (Vl) → Option (Int × Int × ByteArray × (List (Vl)))
  | 0, _, _, _, _ => none
  | k + 1, a0_0, a0_1, a0_2, l0_3 => polyglotkit_OwnValue.l0 k 0 a0_0 a0_1 a0_2 l0_3 a0_0 a0_1 a0_2 ([] : List (Vl))
end
theorem polyglotkit_OwnValue.mono_l : ∀ k, (∀ y0 y1 y2 y3, LeO (polyglotkit_OwnValue.f k y0 y1 y2 y3) (polyglotkit_OwnValue.f (k + 1) y0 y1 y2 y3)) ∧ (∀ y0 y1 y2 y3 y4 y5 y6 y7 y8, LeO (polyglotkit_OwnValue.l0 k y0 y1 y2 y3 y4 y5 y6 y7 y8) (polyglotkit_OwnValue.l0 (k + 1) y0 y1 y2 y3 y4 y5 y6 y7 y8))
  | 0 => ⟨fun _ _ _ _ r h => by simp [polyglotkit_OwnValue.f] at h, fun _ _ _ _ _ _ _ _ _ r h => by simp [polyglotkit_OwnValue.l0] at h⟩
  | k + 1 => by
    obtain ⟨ih0, ih1⟩ := polyglotkit_OwnValue.mono_l k
    refine ⟨?_, ?_⟩
    · intro y0 y1 y2 y3
      unfold polyglotkit_OwnValue.f
      repeat' first
      | (with_reducible exact ih0 _ _ _ _)
      | (with_reducible exact ih1 _ _ _ _ _ _ _ _ _)
      | (with_reducible exact LeO.refl _)
      | (with_reducible exact LeO.none _)
      | (with_reducible refine LeO.ite ?_ ?_)
      | (with_reducible refine LeO.bind ?_ (fun _ => ?_))
      | exact ih0 _ _ _ _
      | exact ih1 _ _ _ _ _ _ _ _ _
      | exact LeO.none _
      | refine LeO.ite ?_ ?_
      | refine LeO.bind ?_ (fun _ => ?_)
    · intro y0 y1 y2 y3 y4 y5 y6 y7 y8
      unfold polyglotkit_OwnValue.l0
      repeat' first
      | (with_reducible exact ih0 _ _ _ _)
      | (with_reducible exact ih1 _ _ _ _ _ _ _ _ _)
      | (with_reducible exact LeO.refl _)
      | (with_reducible exact LeO.none _)
      | (with_reducible refine LeO.ite ?_ ?_)
      | (with_reducible refine LeO.bind ?_ (fun _ => ?_))
      | exact ih0 _ _ _ _
      | exact ih1 _ _ _ _ _ _ _ _ _
      | exact LeO.none _
      | refine LeO.ite ?_ ?_
      | refine LeO.bind ?_ (fun _ => ?_)
theorem polyglotkit_OwnValue.mono : ∀ a0 a1 a2 a3 k, LeO (polyglotkit_OwnValue.f k a0 a1 a2 a3) (polyglotkit_OwnValue.f (k + 1) a0 a1 a2 a3) := by
  intro a0 a1 a2 a3 k
  obtain ⟨ih0, ih1⟩ := polyglotkit_OwnValue.mono_l k
  exact ih0 a0 a1 a2 a3
def polyglotkit_Limits.f  : Option (Int × Int) := some (4096, 6)
def polyglotkit_Cut.l0 : Nat → ByteArray → List Int → List ByteArray → Int → Option (List ByteArray)
  | 0, _, _, _, _ => none
  | k + 1, x0, x1, x5, x6 => if x6 < (x1.length : Int) then (if 0 ≤ x6 then ((polyglotkit_Pick.f (rd x1 x6) (wrap64 ((x0.size : Int) + 1))).bind fun t1567 => (if 0 ≤ t1567 then (if t1567 ≤ (x0.size : Int) then (if x5.length < 8796093022208 then (polyglotkit_Cut.l0 k (x0.extract (t1567 : Int).toNat x0.size) x1 (x5 ++ [x0.extract 0 (t1567 : Int).toNat]) (wrap64 (x6 + 1))) else (none)) else (none)) else (none))) else (none)) else (if x5.length < 8796093022208 then (some (x5 ++ [x0])) else (none))
def polyglotkit_Cut.f (k : Nat) (a0 : ByteArray) (l1 : List Int) : Option (List ByteArray) := polyglotkit_Cut.l0 k a0 l1 ([] : List ByteArray) 0
theorem polyglotkit_Cut.mono_l : ∀ k, (∀ y0 y1 y2 y3, LeO (polyglotkit_Cut.l0 k y0 y1 y2 y3) (polyglotkit_Cut.l0 (k + 1) y0 y1 y2 y3))
  | 0 => fun _ _ _ _ r h => by simp [polyglotkit_Cut.l0] at h
  | k + 1 => by
    have ih0 := polyglotkit_Cut.mono_l k
    · intro y0 y1 y2 y3
      unfold polyglotkit_Cut.l0
      repeat' first
      | (with_reducible exact ih0 _ _ _ _)
      | (with_reducible exact LeO.refl _)
      | (with_reducible exact LeO.none _)
      | (with_reducible refine LeO.ite ?_ ?_)
      | (with_reducible refine LeO.bind ?_ (fun _ => ?_))
      | exact ih0 _ _ _ _
      | exact LeO.none _
      | refine LeO.ite ?_ ?_
      | refine LeO.bind ?_ (fun _ => ?_)
theorem polyglotkit_Cut.mono : ∀ a0 a1 k, LeO (polyglotkit_Cut.f k a0 a1) (polyglotkit_Cut.f (k + 1) a0 a1) := by
  intro a0 a1 k
  have ih0 := polyglotkit_Cut.mono_l k
  unfold polyglotkit_Cut.f
  repeat' first
      | (with_reducible exact ih0 _ _ _ _)
      | (with_reducible exact LeO.refl _)
      | (with_reducible exact LeO.none _)
      | (with_reducible refine LeO.ite ?_ ?_)
      | (with_reducible refine LeO.bind ?_ (fun _ => ?_))
      | exact ih0 _ _ _ _
      | exact LeO.none _
      | refine LeO.ite ?_ ?_
      | refine LeO.bind ?_ (fun _ => ?_)
mutual
def polyglotkit_SameFrame.j0 : Nat → Bool → Int → Int → ByteArray → List (Vl) → Int → Int → ByteArray → List (Vl) → Option (Bool)
  | 0, _, _, _, _, _, _, _, _, _ => none
  | k + 1, x33, x1575000, x1575001, x1575002, x1575003, x1576000, x1576001, x1576002, x1576003 => if x33 = true then (some false) else (polyglotkit_SameFrame.l0 k 0 x1575000 x1575001 x1575002 x1575003 x1576000 x1576001 x1576002 x1576003)
def polyglotkit_SameFrame.l0 : Nat → Int → Int → Int → ByteArray → List (Vl) → Int → Int → ByteArray → List (Vl) → Option (Bool)
  | 0, _, _, _, _, _, _, _, _, _ => none
  | k + 1, x5, x1575000, x1575001, x1575002, x1575003, x1576000, x1576001, x1576002, x1576003 => if x5 < (x1575003.length : Int) then (if 0 ≤ x5 then (if x5 < (x1576003.length : Int) then ((polyglotkit_SameValue.f k ((rdV x1575003 x5).kind) ((rdV x1575003 x5).n) ((rdV x1575003 x5).text) ((rdV x1575003 x5).items) ((rdV x1576003 x5).kind) ((rdV x1576003 x5).n) ((rdV x1576003 x5).text) ((rdV x1576003 x5).items)).bind fun t1578 => (if t1578 = true then (polyglotkit_SameFrame.l0 k (wrap64 (x5 + 1)) x1575000 x1575001 x1575002 x1575003 x1576000 x1576001 x1576002 x1576003) else (some false))) else (none)) else (none)) else (some true)
end
def polyglotkit_SameFrame.f (k : Nat) (a0_0 : Int) (a0_1 : Int) (a0_2 : ByteArray) (l0_3 : List (Vl)) (a1_0 : Int) (a1_1 : Int) (a1_2 : ByteArray) (l1_3 : List (Vl)) : Option (Bool) := if a0_0 = a1_0 then (if a0_1 = a1_1 then (if a0_2.toList = a1_2.toList then (polyglotkit_SameFrame.j0 k ((l0_3.length : Int) != (l1_3.length : Int)) a0_0 a0_1 a0_2 l0_3 a1_0 a1_1 a1_2 l1_3) else (polyglotkit_SameFrame.j0 k true a0_0 a0_1 a0_2 l0_3 a1_0 a1_1 a1_2 l1_3)) else (polyglotkit_SameFrame.j0 k true a0_0 a0_1 a0_2 l0_3 a1_0 a1_1 a1_2 l1_3)) else (polyglotkit_SameFrame.j0 k true a0_0 a0_1 a0_2 l0_3 a1_0 a1_1 a1_2 l1_3)
theorem polyglotkit_SameFrame.mono_l : ∀ k, (∀ y0 y1 y2 y3 y4 y5 y6 y7 y8, LeO (polyglotkit_SameFrame.j0 k y0 y1 y2 y3 y4 y5 y6 y7 y8) (polyglotkit_SameFrame.j0 (k + 1) y0 y1 y2 y3 y4 y5 y6 y7 y8)) ∧ (∀ y0 y1 y2 y3 y4 y5 y6 y7 y8, LeO (polyglotkit_SameFrame.l0 k y0 y1 y2 y3 y4 y5 y6 y7 y8) (polyglotkit_SameFrame.l0 (k + 1) y0 y1 y2 y3 y4 y5 y6 y7 y8))
  | 0 => ⟨fun _ _ _ _ _ _ _ _ _ r h => by simp [polyglotkit_SameFrame.j0] at h, fun _ _ _ _ _ _ _ _ _ r h => by simp [polyglotkit_SameFrame.l0] at h⟩
  | k + 1 => by
    obtain ⟨ih0, ih1⟩ := polyglotkit_SameFrame.mono_l k
    refine ⟨?_, ?_⟩
    · intro y0 y1 y2 y3 y4 y5 y6 y7 y8
      unfold polyglotkit_SameFrame.j0
      repeat' first
      | (with_reducible exact ih0 _ _ _ _ _ _ _ _ _)
      | (with_reducible exact ih1 _ _ _ _ _ _ _ _ _)
      | (with_reducible exact polyglotkit_SameValue.mono _ _ _ _ _ _ _ _ _)
      | (with_reducible exact LeO.refl _)
      | (with_reducible exact LeO.none _)
      | (with_reducible refine LeO.ite ?_ ?_)
      | (with_reducible refine LeO.bind ?_ (fun _ => ?_))
      | exact ih0 _ _ _ _ _ _ _ _ _
      | exact ih1 _ _ _ _ _ _ _ _ _
      | exact polyglotkit_SameValue.mono _ _ _ _ _ _ _ _ _
      | exact LeO.none _
      | refine LeO.ite ?_ ?_
      | refine LeO.bind ?_ (fun _ => ?_)
    · intro y0 y1 y2 y3 y4 y5 y6 y7 y8
      unfold polyglotkit_SameFrame.l0
      repeat' first
      | (with_reducible exact ih0 _ _ _ _ _ _ _ _ _)
      | (with_reducible exact ih1 _ _ _ _ _ _ _ _ _)
      | (with_reducible exact polyglotkit_SameValue.mono _ _ _ _ _ _ _ _ _)
      | (with_reducible exact LeO.refl _)
      | (with_reducible exact LeO.none _)
      | (with_reducible refine LeO.ite ?_ ?_)
      | (with_reducible refine LeO.bind ?_ (fun _ => ?_))
      | exact ih0 _ _ _ _ _ _ _ _ _
      | exact ih1 _ _ _ _ _ _ _ _ _
      | exact polyglotkit_SameValue.mono _ _ _ _ _ _ _ _ _
      | exact LeO.none _
      | refine LeO.ite ?_ ?_
      | refine LeO.bind ?_ (fun _ => ?_)
theorem polyglotkit_SameFrame.mono : ∀ a0 a1 a2 a3 a4 a5 a6 a7 k, LeO (polyglotkit_SameFrame.f k a0 a1 a2 a3 a4 a5 a6 a7) (polyglotkit_SameFrame.f (k + 1) a0 a1 a2 a3 a4 a5 a6 a7) := by
  intro a0 a1 a2 a3 a4 a5 a6 a7 k
  obtain ⟨ih0, ih1⟩ := polyglotkit_SameFrame.mono_l k
  unfold polyglotkit_SameFrame.f
  repeat' first
      | (with_reducible exact ih0 _ _ _ _ _ _ _ _ _)
      | (with_reducible exact ih1 _ _ _ _ _ _ _ _ _)
      | (with_reducible exact polyglotkit_SameValue.mono _ _ _ _ _ _ _ _ _)
      | (with_reducible exact LeO.refl _)
      | (with_reducible exact LeO.none _)
      | (with_reducible refine LeO.ite ?_ ?_)
      | (with_reducible refine LeO.bind ?_ (fun _ => ?_))
      | exact ih0 _ _ _ _ _ _ _ _ _
      | exact ih1 _ _ _ _ _ _ _ _ _
      | exact polyglotkit_SameValue.mono _ _ _ _ _ _ _ _ _
      | exact LeO.none _
      | refine LeO.ite ?_ ?_
      | refine LeO.bind ?_ (fun _ => ?_)
def polyglotkit_SameFrames.l0 : Nat → List (Fr) → List (Fr) → Int → Option (Bool)
  | 0, _, _, _ => none
  | k + 1, x0, x1, x5 => if x5 < (x0.length : Int) then (if 0 ≤ x5 then (if x5 < (x1.length : Int) then ((polyglotkit_SameFrame.f k ((rdFr x0 x5).type) ((rdFr x0 x5).channel) ((rdFr x0 x5).ext) ((rdFr x0 x5).values) ((rdFr x1 x5).type) ((rdFr x1 x5).channel) ((rdFr x1 x5).ext) ((rdFr x1 x5).values)).bind fun t1581 => (if t1581 = true then (polyglotkit_SameFrames.l0 k x0 x1 (wrap64 (x5 + 1))) else (some false))) else (none)) else (none)) else (some true)
def polyglotkit_SameFrames.f (k : Nat) (l0 : List (Fr)) (l1 : List (Fr)) : Option (Bool) := if (l0.length : Int) = (l1.length : Int) then (polyglotkit_SameFrames.l0 k l0 l1 0) else (some false)
theorem polyglotkit_SameFrames.mono_l : ∀ k, (∀ y0 y1 y2, LeO (polyglotkit_SameFrames.l0 k y0 y1 y2) (polyglotkit_SameFrames.l0 (k + 1) y0 y1 y2))
  | 0 => fun _ _ _ r h => by simp [polyglotkit_SameFrames.l0] at h
  | k + 1 => by
    have ih0 := polyglotkit_SameFrames.mono_l k
    · intro y0 y1 y2
      unfold polyglotkit_SameFrames.l0
      repeat' first
      | (with_reducible exact ih0 _ _ _)
      | (with_reducible exact polyglotkit_SameFrame.mono _ _ _ _ _ _ _ _ _)
      | (with_reducible exact LeO.refl _)
      | (with_reducible exact LeO.none _)
      | (with_reducible refine LeO.ite ?_ ?_)
      | (with_reducible refine LeO.bind ?_ (fun _ => ?_))
      | exact ih0 _ _ _
      | exact polyglotkit_SameFrame.mono _ _ _ _ _ _ _ _ _
      | exact LeO.none _
      | refine LeO.ite ?_ ?_
      | refine LeO.bind ?_ (fun _ => ?_)
theorem polyglotkit_SameFrames.mono : ∀ a0 a1 k, LeO (polyglotkit_SameFrames.f k a0 a1) (polyglotkit_SameFrames.f (k + 1) a0 a1) := by
  intro a0 a1 k
  have ih0 := polyglotkit_SameFrames.mono_l k
  unfold polyglotkit_SameFrames.f
  repeat' first
      | (with_reducible exact ih0 _ _ _)
      | (with_reducible exact polyglotkit_SameFrame.mono _ _ _ _ _ _ _ _ _)
      | (with_reducible exact LeO.refl _)
      | (with_reducible exact LeO.none _)
      | (with_reducible refine LeO.ite ?_ ?_)
      | (with_reducible refine LeO.bind ?_ (fun _ => ?_))
      | exact ih0 _ _ _
      | exact polyglotkit_SameFrame.mono _ _ _ _ _ _ _ _ _
      | exact LeO.none _
      | refine LeO.ite ?_ ?_
      | refine LeO.bind ?_ (fun _ => ?_)
end Go.Proofs.YtekpofpgkokoiaaDoor.Q
