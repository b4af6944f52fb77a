/- A part of this claim: what its theorem leans on. -/
import Derived.Test.YtekpofpgkokoiaaDoorZKp
import Derived.Test.YtekpofpgkokoiaaDoorZQkitSameaD
set_option linter.unusedVariables false
set_option linter.unusedSimpArgs false
namespace Go.Proofs.YtekpofpgkokoiaaDoor.P
open Go.RowKit Go.Proofs.YtekpofpgkokoiaaDoor.M Go.Proofs.YtekpofpgkokoiaaDoor.Q Go.Proofs.YtekpofpgkokoiaaDoorW.PrintWords
theorem same_fin (v : Vl) : Ok v → ∀ u, Fin (fun k => polyglotkit_SameValue.f k v.kind v.n v.text v.items u.kind u.n u.text u.items) (sameV v u) := by
  induction v using Vl_ind with
  | h v ih =>
    intro hv u
    obtain ⟨k, n, t, l⟩ := v
    obtain ⟨k', n', t', l'⟩ := u
    have hlen := hv.len
    dsimp only at *
    have loop : ∀ (d i : Nat), i + d = l.length → l.length = l'.length → Fin (fun q => polyglotkit_SameValue.l0 q (i : Int) k n t l k' n' t' l') (sameL (l.drop i) (l'.drop i)) := by
      intro d
      induction d with
      | zero =>
        intro i hi hll
        refine Fin.step (g' := fun _ => some true) (fun q => ?_) ?_
        · simp only [polyglotkit_SameValue.l0]
          rw [if_neg (by omega)]
        · rw [List.drop_eq_nil_of_le (by omega), List.drop_eq_nil_of_le (by omega)]
          exact Fin.const _
      | succ d ihd =>
        intro i hi hll
        have h1 : i < l.length := by omega
        have h2 : i < l'.length := by omega
        rw [sameL_drop h1 h2]
        refine Fin.step (fun q => by simp only [polyglotkit_SameValue.l0]; rw [if_pos (by omega), if_pos (by omega), if_pos (by omega), rdV_at h1, rdV_at h2, w64s i (by omega)]) ?_
        refine Fin.bind (ih l[i] (List.getElem_mem h1) (hv.its _ (List.getElem_mem h1)) l'[i]) ?_
        cases hb : sameV l[i] l'[i] with
        | true =>
          simp only [if_true, Bool.true_and]
          exact ihd (i + 1) (by omega) hll
        | false =>
          simp only [Bool.false_eq_true, if_false, Bool.false_and]
          exact Fin.const _
    have jF : ∀ a b c d' e f g h, Fin (fun q => polyglotkit_SameValue.j0 q true a b c d' e f g h) false := fun a b c d' e f g h => Fin.step (g' := fun _ => some false) (fun q => by simp only [polyglotkit_SameValue.j0, if_true]) (Fin.const _)
    refine Fin.step (fun q => by simp only [polyglotkit_SameValue.f]; rfl) ?_
    rw [sameV]
    by_cases hk : k = k'
    · by_cases hn : n = n'
      · by_cases ht : t = t'
        · subst hk hn ht
          simp only [if_true, decide_true, Bool.true_and]
          by_cases hll : l.length = l'.length
          · rw [show ((l.length : Int) != (l'.length : Int)) = false by rw [hll]; simp]
            refine Fin.step (fun q => by simp only [polyglotkit_SameValue.j0, Bool.false_eq_true, if_false]; rfl) ?_
            have := loop l.length 0 (by omega) hll
            rw [List.drop_zero, List.drop_zero] at this
            exact this
          · rw [show ((l.length : Int) != (l'.length : Int)) = true by simpa using fun e => hll (by omega)]
            have : sameL l l' = false := by
              cases h : sameL l l' with
              | false => rfl
              | true => exact absurd (sameL_len _ _ h) hll
            rw [this]
            exact jF _ _ _ _ _ _ _ _
        · simp only [hk, hn, if_true, if_neg (show ¬ t.toList = t'.toList from fun e => ht (bytes_eq (by rwa [toL, toL] at e))), ht, decide_false, Bool.and_false, Bool.false_and]
          exact jF _ _ _ _ _ _ _ _
      · simp only [hk, if_true, hn, if_false, decide_false, Bool.and_false, Bool.false_and]
        exact jF _ _ _ _ _ _ _ _
    · simp only [hk, if_false, decide_false, Bool.false_and]
      exact jF _ _ _ _ _ _ _ _
end Go.Proofs.YtekpofpgkokoiaaDoor.P
