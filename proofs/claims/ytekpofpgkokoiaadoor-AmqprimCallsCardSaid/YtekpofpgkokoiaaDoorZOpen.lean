/- A part of this claim: what its theorem leans on. -/
import Derived.Test.YtekpofpgkokoiaaDoorZH1
import Derived.ProofKit
import Derived.Lib.SmallJoins
import Derived.Deep.Slices
import Derived.ChangeOld
import Derived.Below
set_option linter.unusedVariables false
set_option linter.unusedSimpArgs false
namespace Go.Proofs.YtekpofpgkokoiaaDoor.M
open Go.ChangeShapes Go.WideShapes Go.ChangeAt Go.RowKit Go.Proofs.YtekpofpgkokoiaaDoorW.PrintWords
inductive WfV : Vl → Prop
  | mk (x : Vl) (hk : -9223372036854775808 ≤ x.kind ∧ x.kind ≤ 9223372036854775807) (h0 : 0 ≤ x.n) (h1 : x.n < 18446744073709551616) (hs : x.text.size ≤ 9223372036854775807) (hl : x.items.length ≤ 9223372036854775807) (hi : ∀ y ∈ x.items, WfV y) : WfV x
section
variable {H : Type} {enc : TypeId × Value → H} {w : World} {base : Nat} {spare : Nat → Bool} {held : Bool}
theorem pick_all {α : Type} (P : Nat → α → Prop) : ∀ n : Nat, (∀ i, i < n → ∃ y, P i y) → ∃ ys : List α, ys.length = n ∧ ∀ i y, ys[i]? = some y → P i y
  | 0, _ => ⟨[], rfl, fun i y h => by simp at h⟩
  | n + 1, h => by
    obtain ⟨ys, hl, hy⟩ := pick_all P n fun i hi => h i (by omega)
    obtain ⟨y, hp⟩ := h n (by omega)
    refine ⟨ys ++ [y], by simp [hl], fun i z hz => ?_⟩
    by_cases hi : i < n
    · rw [List.getElem?_append_left (by omega)] at hz
      exact hy i z hz
    · rw [List.getElem?_append_right (by omega)] at hz
      have e : i - ys.length = 0 := by
        rcases Nat.eq_zero_or_pos (i - ys.length) with e | e
        · exact e
        · rw [List.getElem?_eq_none (by simp; omega)] at hz
          cases hz
      rw [e] at hz
      simp at hz
      obtain rfl : i = n := by omega
      exact hz ▸ hp
set_option maxRecDepth 100000 in
theorem open_V : ∀ (fuel : Nat) {cs : List Value} {x : DataW H × List MemPlace}, DataW.trod enc Tryd.prog w base spare held fuel 25 cs = some x → ∃ y : Vl, WfV y ∧ kV.K w y cs := by
  intro fuel
  induction fuel using Nat.strongRecOn with
  | ind fuel ih =>
    intro cs x h
    obtain ⟨xs, n, rfl, rfl, hl, hlen, hf⟩ := DataW.trod_struct Tryd.underlying25 h
    have hc4 : Tryd.prog.cellsOf 25 = 4 := by kernel_rfl
    rw [hc4] at hl
    match cs, hl with
    | [v0, v1, v2, v3], _ =>
    match xs, hlen with
    | [x0, x1, x2, x3], _ =>
      have c3 : Tryd.prog.cellsOf 3 = 1 := by kernel_rfl
      have c22 : Tryd.prog.cellsOf 22 = 1 := by kernel_rfl
      have c9 : Tryd.prog.cellsOf 9 = 1 := by kernel_rfl
      have cS : Tryd.prog.cellsOf 23 = 1 := by kernel_rfl
      have f0 : DataW.trod enc Tryd.prog w base spare held n 3 (List.take (Tryd.prog.cellsOf 3) [v0, v1, v2, v3]) = some x0 := hf 0 _ rfl
      have f1 : DataW.trod enc Tryd.prog w base spare held n 22 (List.take (Tryd.prog.cellsOf 22) [v1, v2, v3]) = some x1 := hf 1 _ rfl
      have f2 : DataW.trod enc Tryd.prog w base spare held n 9 (List.take (Tryd.prog.cellsOf 9) [v2, v3]) = some x2 := hf 2 _ rfl
      have f3 : DataW.trod enc Tryd.prog w base spare held n 23 (List.take (Tryd.prog.cellsOf 23) [v3]) = some x3 := hf 3 _ rfl
      rw [c3] at f0
      rw [c22] at f1
      rw [c9] at f2
      rw [cS] at f3
      obtain ⟨k, e0, _, wk⟩ := DataW.trod_int Tryd.underlying3 f0
      obtain ⟨m, e1, _, wm⟩ := DataW.trod_int Tryd.underlying22 f1
      obtain ⟨s, e2, _, ws⟩ := DataW.trod_string Tryd.underlying9 f2
      simp only [List.take_succ_cons, List.take_zero, List.cons.injEq, and_true] at e0 e1 e2
      subst e0 e1 e2
      simp [Lit.wf, IntKind.min, IntKind.max, IntKind.signed, IntKind.bits] at wk wm
      have ws' : s.size ≤ 9223372036854775807 := by unfold maxLen at ws; omega
      rcases DataW.trod_slice Tryd.underlying23 f3 with ⟨e3, _⟩ | ⟨a, len, cap, elems, rest, n', hn', e3, _, _, hlc, hcm, hel, hget, _, _⟩
      · simp only [List.take_succ_cons, List.take_zero, List.cons.injEq, and_true] at e3
        subst e3
        exact ⟨⟨k, m, s, []⟩, .mk _ (by dsimp only; omega) (by dsimp only; omega) (by dsimp only; omega) ws' (by simp) (fun y hy => by cases hy), kV_mk w ⟨k, m, s, []⟩ (Nat.le_refl _) (Go.Proofs.YtekpofpgkokoiaaDoorW.PrintWords.Kd.C_nil _ _)⟩
      · simp only [List.take_succ_cons, List.take_zero, List.cons.injEq, and_true] at e3
        subst e3
        have hcm' : cap ≤ 9223372036854775807 := by unfold maxLen at hcm; omega
        have hp : ∀ i, i < len → ∃ y : Vl, WfV y ∧ ∃ c, c.length = 4 ∧ kV.K w y c ∧ ∀ j u, c[j]? = some u → w.cell? (a.add (i * 4 + j)) = some u := by
          intro i hi
          have h0 := hget i hi
          rw [List.getElem?_eq_getElem (by omega)] at h0
          obtain ⟨cs', h1, h2⟩ := Option.bind_eq_some_iff.1 h0
          rw [hc4] at h1
          obtain ⟨_, hl', hcell⟩ := World.cells?_some h1
          obtain ⟨y, hw, hK⟩ := ih n' (by omega) h2
          refine ⟨y, hw, cs', hl', hK, fun j u hu => ?_⟩
          have hj : j < 4 := by
            rcases Nat.lt_or_ge j 4 with h | h
            · exact h
            · rw [List.getElem?_eq_none (by omega)] at hu
              cases hu
          have := hcell j hj
          rw [hu] at this
          rw [← this]
          rw [Addr.add_add]
        obtain ⟨ys, hyl, hy⟩ := pick_all (fun i (y : Vl) => WfV y ∧ ∃ c, c.length = 4 ∧ kV.K w y c ∧ ∀ j u, c[j]? = some u → w.cell? (a.add (i * 4 + j)) = some u) len hp
        subst hyl
        refine ⟨⟨k, m, s, ys⟩, .mk _ (by dsimp only; omega) (by dsimp only; omega) (by dsimp only; omega) ws' (by dsimp only; omega) (fun y hm => ?_), kV_mk w ⟨k, m, s, ys⟩ hlc ⟨rfl, by dsimp only; omega, fun _ => ⟨a, rfl, fun j p hp => ?_⟩⟩⟩
        · obtain ⟨i, hi, e⟩ := List.getElem_of_mem hm
          exact (hy i y (by rw [← e]; exact List.getElem?_eq_getElem hi)).1
        · obtain ⟨_, c, h1, h2, h3⟩ := hy j p hp
          exact ⟨c, h1, h2, h3⟩
end
end Go.Proofs.YtekpofpgkokoiaaDoor.M
