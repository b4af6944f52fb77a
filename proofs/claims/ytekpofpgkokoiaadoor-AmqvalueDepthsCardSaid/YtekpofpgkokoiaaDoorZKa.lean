/- A part of this claim: what its theorem leans on. -/
import Derived.Test.YtekpofpgkokoiaaDoorZTv
import Derived.Test.YtekpofpgkokoiaaDoorZKp
import Derived.Test.YtekpofpgkokoiaaDoorZQkitSameaD
import Derived.Test.YtekpofpgkokoiaaDoorZQamqvalueaD
set_option linter.unusedVariables false
set_option linter.unusedSimpArgs false
namespace Go.Proofs.YtekpofpgkokoiaaDoor.P
open Go.RowKit Go.Proofs.YtekpofpgkokoiaaDoor.M Go.Proofs.YtekpofpgkokoiaaDoor.Q Go.Proofs.YtekpofpgkokoiaaDoorW.PrintWords
theorem Fin.mono {α : Type} {g : Nat → Option α} {r : α} (k : Nat) (h : g k = some r) (hm : ∀ k, LeO (g k) (g (k + 1))) : Fin g r := by
  refine ⟨k, fun j hj => ?_⟩
  obtain ⟨d, rfl⟩ : ∃ d, j = k + d := ⟨j - k, by omega⟩
  induction d with
  | zero => exact h
  | succ d ih => exact hm (k + d) r (ih (by omega))
theorem depthL_append (l l' : List Vl) : depthL (l ++ l') = max (depthL l) (depthL l') := by
  induction l with
  | nil => simp [depthL]
  | cons x l ih => simp only [List.cons_append, depthL, ih, Nat.max_assoc]
theorem depthL_take (l : List Vl) (j : Nat) (h : j < l.length) : depthL (l.take (j + 1)) = max (depthL (l.take j)) (depthV l[j]) := by
  rw [List.take_succ_eq_append_getElem h, depthL_append]
  simp [depthL]
theorem depthL_mem {l : List Vl} {x : Vl} (h : x ∈ l) : depthV x ≤ depthL l := by
  induction l with
  | nil => cases h
  | cons y l ih =>
    rw [depthL]
    rcases List.mem_cons.1 h with rfl | h
    · exact Nat.le_max_left _ _
    · exact Nat.le_trans (ih h) (Nat.le_max_right _ _)
theorem depth_items (v : Vl) (h : v.items ≠ []) : depthV v = depthL v.items + 1 := by
  rw [depthV_eq, if_neg (fun hh => h hh.1)]
theorem mx_nat (a b : Nat) : mx (a : Int) (b : Int) = ((max a b : Nat) : Int) := by
  unfold mx
  split <;> omega
theorem vdepth_fin (v : Vl) : Ok v → depthV v ≤ 1000000 → Fin (fun k => amqvalue_Depth.f k v.kind v.n v.text v.items) (depthV v : Int) := by
  induction v using Vl_ind with
  | h v ih =>
    intro hv hd
    have hlen := hv.len
    have hdl : depthL v.items ≤ 1000000 := by
      by_cases h : v.items = []
      · rw [h]; simp [depthL]
      · rw [depth_items v h] at hd; omega
    obtain ⟨k, n, t, l⟩ := v
    dsimp only at *
    have hfin : Fin (fun (_ : Nat) => (if (l.length : Int) = 0 then (if k < 22 then (some 0) else (if k > 25 then (some 0) else (some (wrap64 ((depthL l : Int) + 1))))) else (some (wrap64 ((depthL l : Int) + 1))))) (depthV ⟨k, n, t, l⟩ : Int) := by
      refine Fin.of fun _ => ?_
      rw [depthV_eq]
      dsimp only
      have hw : wrap64 ((depthL l : Int) + 1) = ((depthL l + 1 : Nat) : Int) := w64s _ (by omega)
      by_cases hl : l = []
      · subst hl
        rw [if_pos (by simp)]
        by_cases h1 : k < 22
        · rw [if_pos h1, if_pos ⟨rfl, .inl h1⟩]; rfl
        · rw [if_neg h1]
          by_cases h2 : k > 25
          · rw [if_pos h2, if_pos ⟨rfl, .inr (by omega)⟩]; rfl
          · rw [if_neg h2, if_neg (by rintro ⟨_, h⟩; omega), hw]
      · rw [if_neg (by intro h; exact hl (List.length_eq_zero_iff.1 (by omega))), if_neg (fun h => hl h.1), hw]
    have loop : ∀ (d i : Nat), i + d = l.length → Fin (fun q => amqvalue_Depth.l0 q (depthL (l.take i) : Int) l (l.length : Int) (i : Int) k n t l) (depthV ⟨k, n, t, l⟩ : Int) := by
      intro d
      induction d with
      | zero =>
        intro i hi
        refine Fin.step (fun q => by simp only [amqvalue_Depth.l0]; rw [if_neg (by omega), List.take_of_length_le (by omega)]) ?_
        exact hfin
      | succ d ihd =>
        intro i hi
        have h1 : i < l.length := by omega
        have hm := List.getElem_mem h1
        refine Fin.step (fun q => by simp only [amqvalue_Depth.l0]; rw [if_pos (by omega), if_pos (by omega), if_pos (by omega), rdV_at h1, w64s i (by omega)]) ?_
        refine Fin.bind (ih l[i] hm (hv.its _ hm) (by have := depthL_mem hm; omega)) ?_
        have := ihd (i + 1) (by omega)
        rw [depthL_take l i h1] at this
        rw [mx_nat]
        exact this
    refine Fin.step (fun q => by simp only [amqvalue_Depth.f]; rfl) ?_
    exact loop l.length 0 (by omega)
theorem vcount_fin (v : Vl) : Ok v → cntV v ≤ 1000000 → Fin (fun k => amqvalue_Count.f k v.kind v.n v.text v.items) (cntV v : Int) := by
  induction v using Vl_ind with
  | h v ih =>
    intro hv hc
    have hlen := hv.len
    rw [cntV_eq] at hc
    obtain ⟨k, n, t, l⟩ := v
    dsimp only at *
    have htk : ∀ i, cntL (l.take i) ≤ cntL l := fun i => by
      have := cntL_append (l.take i) (l.drop i)
      rw [List.take_append_drop] at this
      omega
    have loop : ∀ (d i : Nat), i + d = l.length → Fin (fun q => amqvalue_Count.l0 q (((1 + cntL (l.take i) : Nat) : Int)) l (l.length : Int) (i : Int)) (cntV ⟨k, n, t, l⟩ : Int) := by
      intro d
      induction d with
      | zero =>
        intro i hi
        refine Fin.step (g' := fun _ => some (cntV ⟨k, n, t, l⟩ : Int)) (fun q => by simp only [amqvalue_Count.l0]; rw [if_neg (by omega), List.take_of_length_le (by omega), cntV_eq]) (Fin.const _)
      | succ d ihd =>
        intro i hi
        have h1 : i < l.length := by omega
        have hm := List.getElem_mem h1
        have hci := cntL_mem hm
        have hct := htk (i + 1)
        have hce := cntL_take l i h1
        refine Fin.step (fun q => by simp only [amqvalue_Count.l0]; rw [if_pos (by omega), if_pos (by omega), if_pos (by omega), rdV_at h1, w64s i (by omega)]) ?_
        refine Fin.bind (ih l[i] hm (hv.its _ hm) (by omega)) ?_
        have := ihd (i + 1) (by omega)
        rw [w64 _ (by omega) (by omega), show (((1 + cntL (l.take i) : Nat) : Int) + (cntV l[i] : Int)) = ((1 + cntL (l.take (i + 1)) : Nat) : Int) by omega]
        exact this
    refine Fin.step (fun q => by simp only [amqvalue_Count.f]; rfl) ?_
    exact loop l.length 0 (by omega)
theorem vsame_fin (v : Vl) : Ok v → ∀ u, Fin (fun k => amqvalue_Same.f k v.kind v.n v.text v.items u.kind u.n u.text u.items) (sameV v u) := by
  induction v using Vl_ind with
  | h v ih =>
    intro hv u
    obtain ⟨k, n, t, l⟩ := v
    obtain ⟨k', n', t', l'⟩ := u
    have hlen := hv.len
    dsimp only at *
    have loop : ∀ (d i : Nat), i + d = l.length → l.length = l'.length → Fin (fun q => amqvalue_Same.l0 q (l.length : Int) (i : Int) k n t l k' n' t' l') (sameL (l.drop i) (l'.drop i)) := by
      intro d
      induction d with
      | zero =>
        intro i hi hll
        refine Fin.step (g' := fun _ => some true) (fun q => ?_) ?_
        · simp only [amqvalue_Same.l0]
          rw [if_neg (by omega)]
        · rw [List.drop_eq_nil_of_le (by omega), List.drop_eq_nil_of_le (by omega)]
          exact Fin.const _
      | succ d ihd =>
        intro i hi hll
        have h1 : i < l.length := by omega
        have h2 : i < l'.length := by omega
        rw [sameL_drop h1 h2]
        refine Fin.step (fun q => by simp only [amqvalue_Same.l0]; rw [if_pos (by omega), if_pos (by omega), if_pos (by omega), if_pos (by omega), rdV_at h1, rdV_at h2, w64s i (by omega)]) ?_
        refine Fin.bind (ih l[i] (List.getElem_mem h1) (hv.its _ (List.getElem_mem h1)) l'[i]) ?_
        cases hb : sameV l[i] l'[i] with
        | true =>
          simp only [if_true, Bool.true_and]
          exact ihd (i + 1) (by omega) hll
        | false =>
          simp only [Bool.false_eq_true, if_false, Bool.false_and]
          exact Fin.const _
    have jF : ∀ a b c d' e f g h, Fin (fun q => amqvalue_Same.j0 q true a b c d' e f g h) false := fun a b c d' e f g h => Fin.step (g' := fun _ => some false) (fun q => by simp only [amqvalue_Same.j0, if_true]) (Fin.const _)
    refine Fin.step (fun q => by simp only [amqvalue_Same.f]; rfl) ?_
    rw [sameV]
    by_cases hk : k = k'
    · by_cases hn : n = n'
      · by_cases ht : t = t'
        · subst hk hn ht
          simp only [if_true, decide_true, Bool.true_and]
          by_cases hll : l.length = l'.length
          · rw [show ((l.length : Int) != (l'.length : Int)) = false by rw [hll]; simp]
            refine Fin.step (fun q => by simp only [amqvalue_Same.j0, Bool.false_eq_true, if_false]; rfl) ?_
            have := loop l.length 0 (by omega) hll
            rw [List.drop_zero, List.drop_zero] at this
            exact this
          · rw [show ((l.length : Int) != (l'.length : Int)) = true by simpa using fun e => hll (by omega)]
            have : sameL l l' = false := by
              cases h : sameL l l' with
              | false => rfl
              | true => exact absurd (sameL_len _ _ h) hll
            rw [this]
            exact jF _ _ _ _ _ _ _ _
        · simp only [hk, hn, if_true, if_neg (show ¬ t.toList = t'.toList from fun e => ht (bytes_eq (by rwa [toL, toL] at e))), ht, decide_false, Bool.and_false, Bool.false_and]
          exact jF _ _ _ _ _ _ _ _
      · simp only [hk, if_true, hn, if_false, decide_false, Bool.and_false, Bool.false_and]
        exact jF _ _ _ _ _ _ _ _
    · simp only [hk, if_false, decide_false, Bool.false_and]
      exact jF _ _ _ _ _ _ _ _
end Go.Proofs.YtekpofpgkokoiaaDoor.P
