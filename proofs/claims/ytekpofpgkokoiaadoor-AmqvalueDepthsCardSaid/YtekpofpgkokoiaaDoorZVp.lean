/- A part of this claim: what its theorem leans on. -/
import Derived.Test.YtekpofpgkokoiaaDoorZKp
import Derived.Test.YtekpofpgkokoiaaDoorZQamqvalueaD
import Derived.Laws.BitsLemmas
set_option linter.unusedVariables false
set_option linter.unusedSimpArgs false
namespace Go.Proofs.YtekpofpgkokoiaaDoor.P
open Go.RowKit Go.Proofs.YtekpofpgkokoiaaDoor.M Go.Proofs.YtekpofpgkokoiaaDoor.Q Go.Proofs.YtekpofpgkokoiaaDoorW.PrintWords
theorem mask64 (x : Int) (i : Nat) (hi : i ≤ 64) (h0 : 0 ≤ x) (h1 : x < 18446744073709551616) (c : Int) (hc : c = 2 ^ i - 1) : Go.bits .and .u64 x c = x % 2 ^ i := by
  rw [hc]
  have e64 : (2 : Int) ^ 64 = 18446744073709551616 := rfl
  exact bits_mask .u64 64 (by decide) (fun n h0 h1 => u64w n h0 (by omega)) i hi x h0 (by omega)
theorem mostRight_some (m : Int) : amqvalue_mostRight.f m = some (decide (0 ≤ m ∧ m ≤ 32)) := by
  unfold amqvalue_mostRight.f
  by_cases h : m ≥ 0
  · rw [if_pos h]
    congr 1
    rw [Bool.eq_iff_iff]
    simp
    omega
  · rw [if_neg h]
    congr 1
    rw [Bool.eq_iff_iff]
    simp
    omega
theorem noNumber_some (k n : Int) (t : ByteArray) (l : List Vl) (h0 : 0 ≤ n) (h1 : n < 18446744073709551616) : amqvalue_noNumber.f k n t l = some (noNum k n) := by
  obtain ⟨m, rfl⟩ := Int.eq_ofNat_of_zero_le h0
  unfold amqvalue_noNumber.f noNum
  rw [mask64 _ 8 (by omega) (by omega) (by omega) 255 rfl, mask64 _ 11 (by omega) (by omega) (by omega) 2047 rfl]
  have w1 : (IntKind.u64.wrap ((m : Int) * 2199023255552) != 0) = decide (m % 8388608 ≠ 0) := by
    rw [Bool.eq_iff_iff]
    simp [IntKind.wrap, IntKind.bits, IntKind.signed]
    omega
  have w2 : (IntKind.u64.wrap ((m : Int) * 4096) != 0) = decide (m % 4503599627370496 ≠ 0) := by
    rw [Bool.eq_iff_iff]
    simp [IntKind.wrap, IntKind.bits, IntKind.signed]
    omega
  rw [w1, w2, Int.toNat_natCast]
  have e8 : (2 : Int) ^ 8 = 256 := rfl
  have e11 : (2 : Int) ^ 11 = 2048 := rfl
  rw [e8, e11]
  by_cases h11 : k = 11
  · subst h11
    simp only [if_true, decide_true, Bool.true_and, show (decide ((11 : Int) = 12)) = false from rfl, Bool.false_and, Bool.or_false]
    by_cases hc : (m : Int) / 8388608 % 256 = 255
    · rw [if_pos hc, show decide (m / 2 ^ 23 % 2 ^ 8 = 255) = true from decide_eq_true (by omega)]
      simp
    · rw [if_neg hc, show decide (m / 2 ^ 23 % 2 ^ 8 = 255) = false from decide_eq_false (by omega)]
      simp
  · by_cases h12 : k = 12
    · subst h12
      simp only [if_true, decide_true, Bool.true_and, show ¬ ((12 : Int) = 11) by decide, if_false, decide_false, Bool.false_and, Bool.false_or]
      by_cases hc : (m : Int) / 4503599627370496 % 2048 = 2047
      · rw [if_pos hc, show decide (m / 2 ^ 52 % 2 ^ 11 = 2047) = true from decide_eq_true (by omega)]
        simp
      · rw [if_neg hc, show decide (m / 2 ^ 52 % 2 ^ 11 = 2047) = false from decide_eq_false (by omega)]
        simp
    · simp [h11, h12]
theorem shaped_some (v : Vl) : amqvalue_shaped.f v.kind v.n v.text v.items = some (shapedP v) := by
  unfold amqvalue_shaped.f shapedP
  by_cases ht : v.text.toList = []
  · rw [if_pos ht]
    have hz : v.text.size = 0 := by rw [← len_list, ← toL, ht]; rfl
    simp only [hz, decide_true, Bool.true_and]
    by_cases h24 : v.kind = 24
    · rw [if_pos h24, if_pos h24]
      by_cases hn : v.n ≥ 1
      · rw [if_pos hn]; congr 1; rw [Bool.eq_iff_iff]; simp; omega
      · rw [if_neg hn]; congr 1; rw [Bool.eq_iff_iff]; simp; omega
    · rw [if_neg h24, if_neg h24]
      by_cases hn : v.n = 0
      · simp only [hn, if_true, decide_true, Bool.true_and]
        by_cases h25 : v.kind = 25
        · rw [if_pos h25, if_pos h25]; congr 1; rw [Bool.eq_iff_iff]; simp; omega
        · rw [if_neg h25, if_neg h25]
          by_cases h23 : v.kind = 23
          · rw [if_pos h23, if_pos h23]; congr 1; rw [Bool.eq_iff_iff]; simp; omega
          · rw [if_neg h23, if_neg h23]
      · simp [hn]
  · rw [if_neg ht]
    have hz : ¬ v.text.size = 0 := by
      intro h
      apply ht
      rw [toL]
      exact List.eq_nil_of_length_eq_zero h
    simp [hz]
theorem alikeL_len : ∀ (l l' : List Vl), alikeL l l' = true → l.length = l'.length
  | [], [], _ => rfl
  | x :: l, y :: l', h => by
    rw [alikeL, Bool.and_eq_true] at h
    simp [alikeL_len l l' h.2]
  | [], _ :: _, h => by simp [alikeL] at h
  | _ :: _, [], h => by simp [alikeL] at h
theorem alikeL_drop {l l' : List Vl} {j : Nat} (h : j < l.length) (h' : j < l'.length) : alikeL (l.drop j) (l'.drop j) = (alikeV l[j] l'[j] && alikeL (l.drop (j + 1)) (l'.drop (j + 1))) := by
  rw [List.drop_eq_getElem_cons h, List.drop_eq_getElem_cons h', alikeL]
theorem alike_fin (v : Vl) : Ok v → ∀ u, Ok u → Fin (fun k => amqvalue_alike.f k v.kind v.n v.text v.items u.kind u.n u.text u.items) (alikeV v u) := by
  induction v using Vl_ind with
  | h v ih =>
    intro hv u hu
    obtain ⟨k, n, t, l⟩ := v
    obtain ⟨k', n', t', l'⟩ := u
    have hlen := hv.len
    have h0 := hv.n0
    have h1 := hv.n1
    have g0 := hu.n0
    have g1 := hu.n1
    dsimp only at *
    have loop : ∀ (d i : Nat), i + d = l.length → l.length = l'.length → Fin (fun q => amqvalue_alike.l0 q (l.length : Int) (i : Int) k n t l k' n' t' l') (alikeL (l.drop i) (l'.drop i)) := by
      intro d
      induction d with
      | zero =>
        intro i hi hll
        refine Fin.step (g' := fun _ => some true) (fun q => ?_) ?_
        · simp only [amqvalue_alike.l0]
          rw [if_neg (by omega)]
        · rw [List.drop_eq_nil_of_le (by omega), List.drop_eq_nil_of_le (by omega)]
          exact Fin.const _
      | succ d ihd =>
        intro i hi hll
        have h1 : i < l.length := by omega
        have h2 : i < l'.length := by omega
        rw [alikeL_drop h1 h2]
        refine Fin.step (fun q => by simp only [amqvalue_alike.l0]; rfl) ?_
        refine Fin.ifp (by omega) (Fin.ifp (by omega) (Fin.ifp (by omega) (Fin.ifp (by omega) ?_)))
        rw [rdV_at h1, rdV_at h2, w64s i (by omega)]
        refine Fin.bind (ih l[i] (List.getElem_mem h1) (hv.its _ (List.getElem_mem h1)) l'[i] (hu.its _ (List.getElem_mem h2))) ?_
        cases hb : alikeV l[i] l'[i] with
        | true =>
          rw [Bool.true_and]
          exact Fin.ifp rfl (ihd (i + 1) (by omega) hll)
        | false =>
          rw [Bool.false_and]
          exact Fin.ifn (by simp) (Fin.const _)
    have jF : ∀ a b c d' e f g h, Fin (fun q => amqvalue_alike.j0 q true a b c d' e f g h) false := fun a b c d' e f g h => Fin.step (g' := fun _ => some false) (fun q => by simp only [amqvalue_alike.j0, if_true]) (Fin.const _)
    have jF1 : Fin (fun q => amqvalue_alike.j1 q true k n t l k' n' t' l') false := Fin.step (g' := fun _ => some false) (fun q => by simp only [amqvalue_alike.j1, if_true]) (Fin.const _)
    refine Fin.step (fun q => by simp only [amqvalue_alike.f]; rfl) ?_
    rw [alikeV]
    by_cases hk : k = k'
    · refine Fin.ifp hk ?_
      by_cases ht : t = t'
      · refine Fin.ifp (by rw [ht]) ?_
        by_cases hll : l.length = l'.length
        · rw [show ((l.length : Int) != (l'.length : Int)) = false by rw [hll]; simp]
          have jl : Fin (fun q => amqvalue_alike.j1 q false k n t l k' n' t' l') (alikeL l l') := by
            refine Fin.step (fun q => by simp only [amqvalue_alike.j1, Bool.false_eq_true, if_false]; rfl) ?_
            have := loop l.length 0 (by omega) hll
            rw [List.drop_zero, List.drop_zero] at this
            exact this
          refine Fin.step (fun q => by simp only [amqvalue_alike.j0, Bool.false_eq_true, if_false]; rfl) ?_
          subst hk ht
          simp only [decide_true, Bool.true_and, Bool.and_true]
          by_cases hn : n = n'
          · rw [decide_eq_true hn, Bool.true_or, Bool.true_and]
            exact Fin.ifp hn jl
          · rw [decide_eq_false hn, Bool.false_or]
            refine Fin.ifn hn (Fin.bc (noNumber_some k n t l h0 h1) ?_)
            cases hb : noNum k n with
            | true =>
              refine Fin.ifp rfl (Fin.bc (noNumber_some k n' t l' g0 g1) ?_)
              cases hb' : noNum k n' with
              | true => exact jl
              | false => exact jF1
            | false => exact Fin.ifn (by simp) jF1
        · rw [show ((l.length : Int) != (l'.length : Int)) = true by simpa using fun e => hll (by omega)]
          have : alikeL l l' = false := by
            cases h : alikeL l l' with
            | false => rfl
            | true => exact absurd (alikeL_len _ _ h) hll
          rw [this, Bool.and_false]
          exact jF _ _ _ _ _ _ _ _
      · rw [decide_eq_false ht, Bool.and_false, Bool.false_and]
        exact Fin.ifn (fun e => ht (bytes_eq (by rwa [toL, toL] at e))) (jF _ _ _ _ _ _ _ _)
    · rw [decide_eq_false hk, Bool.false_and, Bool.false_and, Bool.false_and]
      exact Fin.ifn hk (jF _ _ _ _ _ _ _ _)
theorem evens_len : ∀ l : List Vl, (evens l).length = (l.length + 1) / 2
  | [] => rfl
  | [_] => by simp [evens]
  | _ :: _ :: l => by simp only [evens, List.length_cons, evens_len l]; omega
theorem evens_get : ∀ (l : List Vl) (j : Nat) (h : j < (evens l).length), (evens l)[j] = l[2 * j]'(by rw [evens_len] at h; omega)
  | [], j, h => by simp [evens] at h
  | [x], j, h => by
    have : j = 0 := by simp [evens] at h; exact h
    subst this
    rfl
  | x :: y :: l, 0, h => rfl
  | x :: y :: l, j + 1, h => by
    have := evens_get l j (by simpa [evens] using h)
    simp only [evens, List.getElem_cons_succ]
    rw [this]
    simp only [show 2 * (j + 1) = 2 * j + 1 + 1 by omega, List.getElem_cons_succ]
theorem twice_iff : ∀ l : List Vl, twiceK l = true ↔ ∃ i j, ∃ hj : j < l.length, ∃ hi : i < j, alikeV l[j] (l[i]'(by omega)) = true
  | [] => by simp [twiceK]
  | x :: l => by
    rw [twiceK, Bool.or_eq_true, twice_iff l, List.any_eq_true]
    constructor
    · rintro (⟨y, hy, h⟩ | ⟨i, j, hj, hi, h⟩)
      · obtain ⟨j, hj, rfl⟩ := List.getElem_of_mem hy
        exact ⟨0, j + 1, by simp; omega, by omega, by simpa using h⟩
      · exact ⟨i + 1, j + 1, by simp; omega, by omega, by simpa using h⟩
    · rintro ⟨i, j, hj, hi, h⟩
      cases j with
      | zero => omega
      | succ j =>
        cases i with
        | zero => exact .inl ⟨l[j]'(by simpa using hj), List.getElem_mem _, by simpa using h⟩
        | succ i => exact .inr ⟨i, j, by simpa using hj, by omega, by simpa using h⟩
theorem keys_fin (v : Vl) (hv : Ok v) : Fin (fun k => amqvalue_keys.f k v.kind v.n v.text v.items) (keysP v.kind v.items) := by
  obtain ⟨k, n, t, l⟩ := v
  have hlen := hv.len
  have hits := hv.its
  dsimp only at *
  refine Fin.eq (fun q => by rw [amqvalue_keys.f]) ?_
  unfold keysP
  by_cases hk : k = 23
  · refine Fin.ifp hk ?_
    have inner : ∀ (d i j : Nat), j + d = i → i < (evens l).length → (∀ b a, (hb : b < (evens l).length) → (ha : a < b) → (b < i ∨ b = i ∧ a < j) → alikeV (evens l)[b] ((evens l)[a]'(by omega)) = false) →
        (∀ i', i' = i + 1 → (∀ b a, (hb : b < (evens l).length) → (ha : a < b) → b < i' → alikeV (evens l)[b] ((evens l)[a]'(by omega)) = false) → Fin (fun q => amqvalue_keys.l0 q ((2 * i' : Nat) : Int) k n t l) (if k = 23 ∧ twiceK (evens l) = true then 16 else 0)) →
        Fin (fun q => amqvalue_keys.l1 q ((2 * i : Nat) : Int) ((2 * j : Nat) : Int) k n t l) (if k = 23 ∧ twiceK (evens l) = true then 16 else 0) := by
      intro d
      induction d with
      | zero =>
        intro i j hd hi hno hnext
        refine Fin.step (fun q => by simp only [amqvalue_keys.l1]; rfl) ?_
        refine Fin.ifn (by omega) ?_
        have he := evens_len l
        rw [show wrap64 (((2 * i : Nat) : Int) + 2) = ((2 * (i + 1) : Nat) : Int) by rw [w64 _ (by omega) (by omega)]; omega]
        exact hnext (i + 1) rfl fun b a hb ha hlt => hno b a hb ha (by omega)
      | succ d ihd =>
        intro i j hd hi hno hnext
        have he := evens_len l
        have h2i : 2 * i < l.length := by omega
        have h2j : 2 * j < l.length := by omega
        refine Fin.step (fun q => by simp only [amqvalue_keys.l1]; rfl) ?_
        refine Fin.ifp (by omega) (Fin.ifp (by omega) (Fin.ifp (by omega) (Fin.ifp (by omega) (Fin.ifp (by omega) ?_))))
        rw [rdV_at h2i, rdV_at h2j]
        refine Fin.bind (alike_fin l[2 * i] (hits _ (List.getElem_mem h2i)) l[2 * j] (hits _ (List.getElem_mem h2j))) ?_
        have e1 := evens_get l i hi
        have e2 := evens_get l j (by omega)
        cases hb : alikeV l[2 * i] l[2 * j] with
        | true =>
          refine Fin.ifp rfl ?_
          rw [if_pos ⟨hk, (twice_iff _).2 ⟨j, i, hi, by omega, by rw [e1, e2]; exact hb⟩⟩]
          exact Fin.const _
        | false =>
          refine Fin.ifn (by simp) ?_
          rw [show wrap64 (((2 * j : Nat) : Int) + 2) = ((2 * (j + 1) : Nat) : Int) by rw [w64 _ (by omega) (by omega)]; omega]
          refine ihd i (j + 1) (by omega) hi (fun b a hb' ha hor => ?_) hnext
          by_cases hc : b = i ∧ a = j
          · obtain ⟨rfl, rfl⟩ := hc
            rw [e1, e2]
            exact hb
          · exact hno b a hb' ha (by omega)
    have outer : ∀ (d i : Nat), (evens l).length ≤ i + d → 1 ≤ i → i ≤ l.length + 1 → (∀ b a, (hb : b < (evens l).length) → (ha : a < b) → b < i → alikeV (evens l)[b] ((evens l)[a]'(by omega)) = false) → Fin (fun q => amqvalue_keys.l0 q ((2 * i : Nat) : Int) k n t l) (if k = 23 ∧ twiceK (evens l) = true then 16 else 0) := by
      intro d
      induction d with
      | zero =>
        intro i hd h1 h2 hno
        have he := evens_len l
        refine Fin.step (fun q => by simp only [amqvalue_keys.l0]; rfl) ?_
        refine Fin.ifn (by omega) ?_
        rw [if_neg]
        · exact Fin.const _
        · rintro ⟨_, h⟩
          obtain ⟨a, b, hb, ha, h⟩ := (twice_iff _).1 h
          rw [hno b a hb ha (by omega)] at h
          cases h
      | succ d ihd =>
        intro i hd h1 h2 hno
        have he := evens_len l
        by_cases hi : i < (evens l).length
        · refine Fin.step (fun q => by simp only [amqvalue_keys.l0]; rfl) ?_
          refine Fin.ifp (by omega) ?_
          have := inner i i 0 (by omega) hi (fun b a hb ha hor => hno b a hb ha (by omega)) (fun i' e hno' => by subst e; exact ihd (i + 1) (by omega) (by omega) (by omega) hno')
          exact this
        · exact ihd i (by omega) h1 h2 hno
    exact outer (l.length + 1) 1 (by rw [evens_len]; omega) (by omega) (by omega) (fun b a hb ha hlt => by omega)
  · refine Fin.ifn hk ?_
    rw [if_neg (by simp [hk])]
    exact Fin.const _
end Go.Proofs.YtekpofpgkokoiaaDoor.P
