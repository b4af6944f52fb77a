/- A part of this claim: what its theorem leans on. -/
import Derived.Test.YtekpofpgkokoiaaDoorZKp
import Derived.Test.YtekpofpgkokoiaaDoorZQref16bigaD
import Derived.Test.YtekpofpgkokoiaaDoorZQlaw16livesaD
set_option linter.unusedVariables false
set_option linter.unusedSimpArgs false
namespace Go.Proofs.YtekpofpgkokoiaaDoor.P
open Go.RowKit Go.Proofs.YtekpofpgkokoiaaDoor.M Go.Proofs.YtekpofpgkokoiaaDoor.Q Go.Proofs.YtekpofpgkokoiaaDoorW.PrintWords
theorem own_fin (v : Vl) : Ok v → Fin (fun k => polyglotkit_OwnValue.f k v.kind v.n v.text v.items) (v.kind, v.n, v.text, v.items) := by
  induction v using Vl_ind with
  | h v ih =>
    intro hv
    obtain ⟨k, n, t, l⟩ := v
    have hlen := hv.len
    dsimp only at *
    have loop : ∀ (d i : Nat), i + d = l.length → Fin (fun q => polyglotkit_OwnValue.l0 q (i : Int) k n t l k n t (l.take i)) (k, n, t, l) := by
      intro d
      induction d with
      | zero =>
        intro i hi
        refine Fin.step (g' := fun _ => some (k, n, t, l)) (fun q => ?_) (Fin.const _)
        simp only [polyglotkit_OwnValue.l0]
        rw [if_neg (by omega), List.take_of_length_le (by omega)]
      | succ d ihd =>
        intro i hi
        have h1 : i < l.length := by omega
        refine Fin.step (fun q => by simp only [polyglotkit_OwnValue.l0]; rw [if_pos (by omega), if_pos (by omega), rdV_at h1, w64s i (by omega)]) ?_
        refine Fin.bind (ih l[i] (List.getElem_mem h1) (hv.its _ (List.getElem_mem h1))) ?_
        have := ihd (i + 1) (by omega)
        rw [List.take_succ_eq_append_getElem h1] at this
        exact Fin.eq (fun q => by rw [if_pos (by rw [List.length_take]; omega)]; simp only [vl_eta]) this
    refine Fin.step (fun q => by simp only [polyglotkit_OwnValue.f]; rfl) ?_
    exact loop l.length 0 (by omega)
theorem same_int_fin (l : List Int) (h : l.length ≤ 1000000000) : Fin (fun k => polyglotkit_Same_int.f k l l) true := by
  have loop : ∀ (d i : Nat), i + d = l.length → Fin (fun q => polyglotkit_Same_int.l0 q l l (i : Int)) true := by
    intro d
    induction d with
    | zero =>
      intro i hi
      refine Fin.step (g' := fun _ => some true) (fun q => ?_) (Fin.const _)
      simp only [polyglotkit_Same_int.l0]
      rw [if_neg (by omega)]
    | succ d ihd =>
      intro i hi
      have h1 : i < l.length := by omega
      refine Fin.step (fun q => by simp only [polyglotkit_Same_int.l0, if_true]; rw [if_pos (by omega), if_pos (by omega), if_pos (by omega), w64s i (by omega)]) ?_
      exact ihd (i + 1) (by omega)
  refine Fin.eq (fun q => by rw [polyglotkit_Same_int.f, if_pos rfl]) ?_
  exact loop l.length 0 (by omega)
end Go.Proofs.YtekpofpgkokoiaaDoor.P
