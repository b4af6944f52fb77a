/- A part of this claim: what its theorem leans on. -/
import Derived.Test.YtekpofpgkokoiaaDoorZRe16
import Derived.Lib.LazyBuf
set_option linter.unusedVariables false
set_option linter.unusedSimpArgs false
namespace Go.Proofs.YtekpofpgkokoiaaDoor.P
open Go.RowKit Go.Proofs.YtekpofpgkokoiaaDoor.M Go.Proofs.YtekpofpgkokoiaaDoor.Q Go.Proofs.YtekpofpgkokoiaaDoorW.PrintWords Go.Proofs.YtekpofpgkokoiaaDoorW.PrintMore
theorem rck_j2 (b : Bool) (k n : Int) (t : ByteArray) (l : List Vl) (ht : t.size ≤ 140737488351232) : Fin (fun q => polyglotref16_Check.j2 q b k n t l) (if b = true then 2 else if 1048576 < t.size then 4 else textE k t) := by
  refine Fin.step (fun q => by simp only [polyglotref16_Check.j2]; rfl) ?_
  cases b with
  | true => exact Fin.const _
  | false =>
    simp only [Bool.false_eq_true, if_false]
    by_cases h : 1048576 < t.size
    · rw [if_pos h]; exact Fin.ifp (by omega) (Fin.const _)
    · rw [if_neg h]
      refine Fin.ifn (by omega) ?_
      unfold textE
      by_cases h20 : k = 20
      · rw [if_pos h20]
        refine Fin.ifp h20 (Fin.bind (utf8_fin t ht) ?_)
        cases Lib.validD t.data.toList with
        | true =>
          rw [if_pos rfl]
          exact Fin.ifp rfl (Fin.ifn (by omega) (Fin.const _))
        | false => exact Fin.const _
      · rw [if_neg h20]
        refine Fin.ifn h20 ?_
        by_cases h21 : k = 21
        · rw [if_pos h21]
          refine Fin.ifp h21 (Fin.bind (ascii_fin t ht) ?_)
          cases ascii t <;> exact Fin.const _
        · rw [if_neg h21]
          exact Fin.ifn h21 (Fin.const _)
theorem rck_j1 (k n : Int) (t : ByteArray) (l : List Vl) (h0 : 0 ≤ n) (h1 : n < 18446744073709551616) (ht : t.size ≤ 140737488351232) (hk : ¬ (k < 1 ∨ 21 < k)) : Fin (fun q => polyglotref16_Check.j1 q (decide (k = 15 ∨ k = 18)) false k n t l) (checkP ⟨k, n, t, l⟩) := by
  refine Fin.step (fun q => by simp only [polyglotref16_Check.j1, Bool.false_eq_true, if_false]; rfl) ?_
  refine Fin.bind (ranged_fin k n t l h0 h1) ?_
  unfold checkP
  dsimp only
  rw [if_neg hk]
  have j2t : Fin (fun q => polyglotref16_Check.j2 q true k n t l) 2 := rck_j2 true k n t l ht
  cases hr : rangedP k n with
  | false =>
    rw [if_pos]
    · exact Fin.ifn (by simp) j2t
    · unfold rangedP at hr
      rw [Bool.and_eq_false_iff, Bool.or_eq_false_iff] at hr
      rcases hr with hr | ⟨hr, hr2⟩
      · exact .inl hr
      · exact .inr (.inl ⟨by simpa using hr, hr2⟩)
  | true =>
    have hr' : fitsB n (bitsN k) (bitsS k) = true ∧ (k = 16 → charOk n = true) := by
      unfold rangedP at hr
      rw [Bool.and_eq_true, Bool.or_eq_true] at hr
      exact ⟨hr.1, fun h => by rcases hr.2 with h2 | h2; exact absurd h (by simpa using h2); exact h2⟩
    refine Fin.ifp rfl ?_
    by_cases hl : l.length = 0
    · rw [if_neg (by rintro (h | ⟨h, h2⟩ | h); rw [hr'.1] at h; cases h; rw [hr'.2 h] at h2; cases h2; exact h hl)]
      refine Fin.ifn (by omega) (Fin.bc (texts_some k) ?_)
      cases htx : textual k with
      | true =>
        rw [if_neg (by simp)]
        refine Fin.ifp rfl ?_
        by_cases hw : k = 15 ∨ k = 18
        · refine Fin.ifp (by simpa using hw) ?_
          have := rck_j2 ((t.size : Int) != 16) k n t l ht
          by_cases h16 : t.size = 16
          · rw [if_neg (by rintro ⟨_, h⟩; exact h h16)]
            rw [show ((t.size : Int) != 16) = false by simp [h16]] at this ⊢
            simp only [Bool.false_eq_true, if_false] at this
            exact this
          · rw [if_pos ⟨hw, h16⟩]
            rw [show ((t.size : Int) != 16) = true by simp; omega] at this ⊢
            exact this
        · rw [if_neg (by rintro ⟨h, _⟩; exact hw h)]
          refine Fin.ifn (by simpa using hw) ?_
          have := rck_j2 false k n t l ht
          simp only [Bool.false_eq_true, if_false] at this
          exact this
      | false =>
        have hw : ¬ (k = 15 ∨ k = 18) := by
          rintro (h | h) <;> rw [h] at htx <;> exact absurd htx (by decide)
        rw [if_pos rfl]
        refine Fin.ifn (by simp) ?_
        by_cases hz : t.size = 0
        · rw [if_pos hz]
          refine Fin.ifp (by rw [toL]; exact List.eq_nil_of_length_eq_zero hz) (Fin.ifn (by simpa using hw) ?_)
          have := rck_j2 false k n t l ht
          simp only [Bool.false_eq_true, if_false] at this
          rw [if_neg (by omega)] at this
          have e : textE k t = 0 := by
            unfold textE
            rw [if_neg (by intro h; rw [h] at htx; exact absurd htx (by decide)), if_neg (by intro h; rw [h] at htx; exact absurd htx (by decide))]
          rw [e] at this
          exact this
        · rw [if_neg hz]
          refine Fin.ifn (by intro h; rw [toL] at h; exact hz (by rw [← len_list, h]; rfl)) ?_
          exact j2t
    · rw [if_pos (.inr (.inr hl))]
      exact Fin.ifp (by omega) j2t
theorem rcheck_fin (k n : Int) (t : ByteArray) (l : List Vl) (h : okN n t) : Fin (fun q => polyglotref16_Check.f q k n t l) (checkP ⟨k, n, t, l⟩) := by
  obtain ⟨h0, h1, ht⟩ := h
  have key : Fin (fun q => polyglotref16_Check.j0 q (decide (k = 15 ∨ k = 18)) k n t l) (checkP ⟨k, n, t, l⟩) := by
    refine Fin.step (fun q => by simp only [polyglotref16_Check.j0]; rfl) ?_
    have j1t : Fin (fun q => polyglotref16_Check.j1 q (decide (k = 15 ∨ k = 18)) true k n t l) 8 := Fin.step (g' := fun _ => some 8) (fun q => by simp only [polyglotref16_Check.j1, if_true]) (Fin.const _)
    by_cases hk : k < 1 ∨ 21 < k
    · have e : checkP ⟨k, n, t, l⟩ = 8 := by unfold checkP; dsimp only; rw [if_pos hk]
      rw [e]
      by_cases hk1 : k < 1
      · exact Fin.ifp hk1 j1t
      · refine Fin.ifn hk1 ?_
        rw [show decide (k > 21) = true from decide_eq_true (by omega)]
        exact j1t
    · refine Fin.ifn (by omega) ?_
      rw [show decide (k > 21) = false from decide_eq_false (by omega)]
      exact rck_j1 k n t l h0 h1 ht hk
  refine Fin.eq (fun q => by rw [polyglotref16_Check.f]) ?_
  by_cases h15 : k = 15
  · rw [show decide (k = 15 ∨ k = 18) = true from decide_eq_true (.inl h15)] at key
    exact Fin.ifp h15 key
  · refine Fin.ifn h15 ?_
    rw [show decide (k = 15 ∨ k = 18) = (k == 18) by rw [Bool.eq_iff_iff]; simp [h15]] at key
    exact key
theorem narrow_tab : ∀ c ∈ tableL, c.sized = false → c.width = 1 → c.code = 80 ∨ c.code = 81 ∨ c.code = 82 ∨ c.code = 83 ∨ c.code = 84 ∨ c.code = 85 ∨ c.code = 86 := by decide
theorem narrow_kind : (ofC 80).kind = 3 ∧ (ofC 81).kind = 7 ∧ (ofC 82).kind = 5 ∧ (ofC 83).kind = 6 ∧ (ofC 84).kind = 9 ∧ (ofC 85).kind = 10 ∧ (ofC 86).kind = 2 ∧ (ofC 65).sized = false ∧ (ofC 65).width = 0 := by decide
theorem wide_code : ∀ c ∈ tableL, (c.code = 82 ∨ c.code = 83 ∨ c.code = 84 ∨ c.code = 85) → c.sized = false ∧ c.width = 1 := by decide
theorem sized_code : ∀ c ∈ tableL, c.sized = true → c.code ≠ 65 ∧ c.width ≠ 0 ∧ (c.width = 1 ∨ c.width = 4) ∧ c.code ≠ 82 ∧ c.code ≠ 83 ∧ c.code ≠ 84 ∧ c.code ≠ 85 := by decide
theorem fitsB_8' {n : Int} (h0 : 0 ≤ n) (h : fitsB n (bitsN 2) (bitsS 2) = true) : fitsB n 8 (bitsS 2) = true := by
  unfold fitsB bitsN bitsS at *
  simp at *
  omega
theorem rfits_j0 (code k n : Int) (t : ByteArray) (l : List Vl) (hB : ofB code = true) (hk : (ofC code).kind = k) (hc : checkP ⟨k, n, t, l⟩ = 0) (h0 : 0 ≤ n) (h1 : n < 18446744073709551616) :
    Fin (fun q => polyglotref16_Fits.j0 q code false k n t l (ofC code).code (ofC code).kind (ofC code).width (ofC code).sized (ofC code).items) (saysP (ofC code) ⟨k, n, t, l⟩) := by
  have hm := ofC_mem hB
  have hcd := ofC_code code hB
  obtain ⟨v1, v2, v3, v4, v5, v6⟩ := chk_parts hc
  dsimp only at v3
  refine Fin.step (fun q => by simp only [polyglotref16_Fits.j0, Bool.false_eq_true, if_false]; rfl) ?_
  unfold saysP
  dsimp only
  by_cases h65 : code = 65
  · rw [if_pos (by rw [hcd]; exact h65)]
    exact Fin.ifp h65 (Fin.of fun _ => by rw [show (n == 1) = decide (n = 1) from rfl])
  rw [if_neg (by rw [hcd]; exact h65)]
  refine Fin.ifn h65 ?_
  have j1t : ∀ b : Bool, b = true → Fin (fun q => polyglotref16_Fits.j1 q code b k n t l) (decide ((t.size : Int) < 256)) := fun b hb => by
    subst hb
    exact Fin.step (g' := fun _ => some (decide ((t.size : Int) < 256))) (fun q => by simp only [polyglotref16_Fits.j1, if_true]) (Fin.const _)
  have j2t : Fin (fun q => polyglotref16_Fits.j2 q code true k n t l) (decide (n < 256)) := Fin.step (g' := fun _ => some (decide (n < 256))) (fun q => by simp only [polyglotref16_Fits.j2, if_true]) (Fin.const _)
  have rest : ∀ r : Bool, ((code = 82 ∨ code = 83) → r = decide (n < 256)) → ((code = 84 ∨ code = 85) → r = fitsB n 8 true) → (¬ (code = 82 ∨ code = 83 ∨ code = 84 ∨ code = 85) → r = true) → Fin (fun q => polyglotref16_Fits.j1 q code false k n t l) r := by
    intro r r1 r2 r3
    refine Fin.step (fun q => by simp only [polyglotref16_Fits.j1, Bool.false_eq_true, if_false]; rfl) ?_
    by_cases h82 : code = 82
    · rw [r1 (.inl h82)]
      exact Fin.ifp h82 j2t
    refine Fin.ifn h82 ?_
    by_cases h83 : code = 83
    · rw [r1 (.inr h83), show (code == 83) = true by simpa using h83]
      exact j2t
    rw [show (code == 83) = false by simpa using h83]
    refine Fin.step (fun q => by simp only [polyglotref16_Fits.j2, Bool.false_eq_true, if_false]; rfl) ?_
    by_cases h84 : code = 84
    · rw [r2 (.inl h84)]
      exact Fin.ifp h84 (Fin.bc (signed_some n 8 (.inl rfl) h0 h1) (Fin.const _))
    refine Fin.ifn h84 ?_
    by_cases h85 : code = 85
    · rw [r2 (.inr h85)]
      exact Fin.ifp h85 (Fin.bc (signed_some n 8 (.inl rfl) h0 h1) (Fin.const _))
    refine Fin.ifn h85 ?_
    rw [r3 (by omega)]
    exact Fin.const _
  cases hsz : (ofC code).sized with
  | true =>
    obtain ⟨s1, s2, s3, s4, s5, s6, s7⟩ := sized_code _ hm hsz
    rw [hcd] at s1 s4 s5 s6 s7
    rw [if_pos rfl]
    refine Fin.ifn s2 (Fin.ifp rfl ?_)
    rcases s3 with e | e
    · rw [e]
      have : (decide ((1 : Int) = 4) || decide (t.size ≤ 255)) = decide ((t.size : Int) < 256) := by rw [Bool.eq_iff_iff]; simp; omega
      rw [this]
      exact j1t _ (by decide)
    · rw [e]
      refine Fin.eq (g' := fun q => polyglotref16_Fits.j1 q code false k n t l) (fun q => by rfl) ?_
      exact rest _ (fun h => by omega) (fun h => by omega) (fun _ => by simp)
  | false =>
    simp only [Bool.false_eq_true, if_false]
    by_cases hw0 : (ofC code).width = 0
    · rw [if_pos hw0]
      exact Fin.ifp hw0 (Fin.of fun _ => by rw [show (n == 0) = decide (n = 0) from rfl])
    · rw [if_neg hw0]
      refine Fin.ifn hw0 ?_
      have hwc : ∀ x : Int, (x = 82 ∨ x = 83 ∨ x = 84 ∨ x = 85) → code = x → (ofC code).width = 1 := fun x hx he => (wide_code _ hm (by rw [hcd, he]; exact hx)).2
      obtain ⟨k80, k81, k82, k83, k84, k85, k86, _⟩ := narrow_kind
      by_cases hw1 : (ofC code).width = 1
      · rw [if_pos hw1]
        have hn := narrow_tab _ hm hsz hw1
        rw [hcd] at hn
        refine rest _ (fun h => ?_) (fun h => ?_) (fun h => ?_)
        · have : bitsS (ofC code).kind = false := by rcases h with rfl | rfl <;> decide
          rw [this]; rfl
        · have : bitsS (ofC code).kind = true := by rcases h with rfl | rfl <;> decide
          rw [this]
        · rcases hn with rfl | rfl | rfl | rfl | rfl | rfl | rfl
          · rw [k80] at hk ⊢; subst hk; exact v3
          · rw [k81] at hk ⊢; subst hk; exact v3
          · omega
          · omega
          · omega
          · omega
          · rw [k86] at hk ⊢; subst hk; exact fitsB_8' h0 v3
      · rw [if_neg hw1]
        refine rest true (fun h => ?_) (fun h => ?_) (fun _ => rfl)
        · exact absurd (by rcases h with h | h; exact hwc 82 (by omega) h; exact hwc 83 (by omega) h) hw1
        · exact absurd (by rcases h with h | h; exact hwc 84 (by omega) h; exact hwc 85 (by omega) h) hw1
theorem rfits_fin (code k n : Int) (t : ByteArray) (l : List Vl) (h : okN n t) : Fin (fun q => polyglotref16_Fits.f q code k n t l) (fitsP code ⟨k, n, t, l⟩) := by
  have j0t : ∀ a b c d e, Fin (fun q => polyglotref16_Fits.j0 q code true k n t l a b c d e) false := fun a b c d e => Fin.step (g' := fun _ => some false) (fun q => by simp only [polyglotref16_Fits.j0, if_true]) (Fin.const _)
  refine Fin.eq (fun q => by rw [polyglotref16_Fits.f]) (Fin.bind (rof_fin code) ?_)
  unfold fitsP
  dsimp only
  cases hB : ofB code with
  | false =>
    simp only [Bool.false_and]
    exact Fin.ifn (by simp) (j0t _ _ _ _ _)
  | true =>
    refine Fin.ifp rfl ?_
    by_cases hk : (ofC code).kind = k
    · refine Fin.ifp hk (Fin.bind (rcheck_fin k n t l h) ?_)
      by_cases hc : checkP ⟨k, n, t, l⟩ = 0
      · rw [hc, show ((0 : Int) != 0) = false by decide, decide_eq_true hk, decide_eq_true (rfl : (0 : Int) = 0)]
        simp only [Bool.true_and, Bool.and_self]
        exact rfits_j0 code k n t l hB hk hc h.1 h.2.1
      · rw [show (checkP ⟨k, n, t, l⟩ != 0) = true by simpa using hc, decide_eq_false hc]
        simp only [Bool.and_false, Bool.false_and]
        exact j0t _ _ _ _ _
    · rw [decide_eq_false hk]
      simp only [Bool.and_false, Bool.false_and]
      exact Fin.ifn hk (j0t _ _ _ _ _)
theorem rleast_fin (k n : Int) (t : ByteArray) (l : List Vl) (h : okN n t) : Fin (fun q => polyglotref16_Least.f q k n t l) (leastP ⟨k, n, t, l⟩) := by
  refine Fin.eq (fun q => by rw [polyglotref16_Least.f]) (Fin.bind (rcheck_fin k n t l h) ?_)
  unfold leastP
  dsimp only
  by_cases hc : checkP ⟨k, n, t, l⟩ = 0
  · rw [if_pos hc]
    refine Fin.ifp hc (Fin.bind (rcodes_fin k) ?_)
    have hle := codesL_le k
    have loop : ∀ (d i : Nat), i + d = (codesL k).length → Fin (fun q => polyglotref16_Least.l0 q (codesL k) (i : Int) k n t l) (match ((codesL k).drop i).find? (fun c => fitsP c ⟨k, n, t, l⟩) with | some c => (c, 0) | none => (0, 2)) := by
      intro d
      induction d with
      | zero =>
        intro i hi
        refine Fin.step (g' := fun _ => some (0, 2)) (fun q => by simp only [polyglotref16_Least.l0]; rw [if_neg (by omega)]) ?_
        rw [List.drop_eq_nil_of_le (by omega)]
        exact Fin.const _
      | succ d ihd =>
        intro i hi
        have h1 : i < (codesL k).length := by omega
        refine Fin.step (fun q => by simp only [polyglotref16_Least.l0]; rw [if_pos (by omega), if_pos (by omega), rd_at h1, w64s i (by omega)]) ?_
        refine Fin.bind (rfits_fin (codesL k)[i] k n t l h) ?_
        rw [List.drop_eq_getElem_cons h1, List.find?_cons]
        cases hf : fitsP (codesL k)[i] ⟨k, n, t, l⟩ with
        | true => exact Fin.const _
        | false => exact ihd (i + 1) (by omega)
    have := loop (codesL k).length 0 (by omega)
    rw [List.drop_zero] at this
    exact this
  · rw [if_neg hc]
    exact Fin.ifn hc (Fin.const _)
theorem beL_low (n i : Nat) : beL n (i + 1) = UInt8.ofNat (n / 256 ^ i % 256) :: beL n i := by
  induction i generalizing n with
  | zero => simp [beL]
  | succ i ih =>
    rw [beL, ih (n / 256)]
    rw [show beL n (i + 1) = beL (n / 256) i ++ [UInt8.ofNat (n % 256)] from rfl, List.cons_append, Nat.div_div_eq_div_mul, Nat.pow_succ, Nat.mul_comm (256 ^ i) 256]
theorem rbig_fin (n w : Nat) (hw : w ≤ 16) : Fin (fun q => polyglotref16_Big.f q (n : Int) (w : Int)) (beB n w) := by
  have loop : ∀ (d i : Nat), i + d = w → Fin (fun q => polyglotref16_Big.l0 q ((n / 256 ^ i : Nat) : Int) (w : Int) (ofBs (beL n i)) (i : Int)) (ofBs (beL n w)) := by
    intro d
    induction d with
    | zero =>
      intro i hi
      obtain rfl : i = w := by omega
      exact Fin.step (g' := fun _ => some (ofBs (beL n i))) (fun q => by simp only [polyglotref16_Big.l0]; rw [if_neg (by omega)]) (Fin.const _)
    | succ d ihd =>
      intro i hi
      have hb : strOfNums ([((n / 256 ^ i : Nat) : Int) % 256] : List Int) = ofBs [UInt8.ofNat (n / 256 ^ i % 256)] := by
        have := Lib.Lz.strOfNums_map [UInt8.ofNat (n / 256 ^ i % 256)]
        rw [List.map_cons, List.map_nil, UInt8.toNat_ofNat'] at this
        rw [show (((n / 256 ^ i : Nat) : Int) % 256) = ((n / 256 ^ i % 256 % 2 ^ 8 : Nat) : Int) by omega]
        exact this
      refine Fin.step (fun q => by simp only [polyglotref16_Big.l0]; rw [if_pos (by omega), w64s i (by omega)]) ?_
      refine Fin.bc rfl ?_
      rw [hb]
      refine Fin.ifp (by rw [ofBs_size, ofBs_size, beL_len]; simp; omega) ?_
      have e1 : ((n / 256 ^ i : Nat) : Int) / 256 = ((n / 256 ^ (i + 1) : Nat) : Int) := by rw [Nat.pow_succ, ← Nat.div_div_eq_div_mul]; omega
      have e2 : ofBs [UInt8.ofNat (n / 256 ^ i % 256)] ++ ofBs (beL n i) = ofBs (beL n (i + 1)) := by
        apply bytes_eq
        rw [app_list, ofBs_list, ofBs_list, ofBs_list, beL_low]
        rfl
      rw [e1, e2]
      exact ihd (i + 1) (by omega)
  have := loop w 0 (by omega)
  rw [Nat.pow_zero, Nat.div_one] at this
  exact Fin.eq (fun q => by rw [polyglotref16_Big.f]; rfl) this
theorem rnum_fin (s : ByteArray) (hs : s.size ≤ 8) : Fin (fun k => polyglotref16_Number.f k s) (numL s.data.toList : Int) := by
  have loop : ∀ (d i : Nat), i + d = s.size → Fin (fun q => polyglotref16_Number.l0 q s (numL (s.data.toList.take i) : Int) (i : Int)) (numL s.data.toList : Int) := by
    intro d
    induction d with
    | zero =>
      intro i hi
      refine Fin.step (g' := fun _ => some (numL s.data.toList : Int)) (fun q => ?_) (Fin.const _)
      simp only [polyglotref16_Number.l0]
      rw [if_neg (by omega), List.take_of_length_le (by rw [len_list]; omega)]
    | succ d ihd =>
      intro i hi
      have h1 : i < s.size := by omega
      have hn : numL (s.data.toList.take i) < 256 ^ i := by
        have := numL_lt (s.data.toList.take i)
        rwa [List.length_take, len_list, Nat.min_eq_left (by omega)] at this
      have hp : (256 : Nat) ^ i ≤ 256 ^ 7 := Nat.pow_le_pow_right (by omega) (by omega)
      have hb := (s.data.toList[i]'h1).toNat_lt
      refine Fin.step (fun q => by simp only [polyglotref16_Number.l0]; rw [if_pos (by omega), if_pos (by omega), bt_at' h1, shift_byte _ _ (by omega) (by omega) (by omega) (by omega), w64s i (by omega)]) ?_
      have := ihd (i + 1) (by omega)
      rw [List.take_succ_eq_append_getElem (show i < s.data.toList.length from h1), numL_snoc] at this
      rw [show ((numL (s.data.toList.take i) : Int) * 256 + ((s.data.toList[i]'h1).toNat : Int)) = ((numL (s.data.toList.take i) * 256 + (s.data.toList[i]'h1).toNat : Nat) : Int) by omega]
      exact this
  have := loop s.size 0 (by omega)
  exact Fin.eq (fun q => by rw [polyglotref16_Number.f]; rfl) this
theorem rput_fin (code k n : Int) (t : ByteArray) (l : List Vl) (h : okN n t) : Fin (fun q => polyglotref16_Put.f q code k n t l) (putP code ⟨k, n, t, l⟩) := by
  refine Fin.eq (fun q => by rw [polyglotref16_Put.f]) (Fin.bind (rcheck_fin k n t l h) ?_)
  unfold putP
  obtain ⟨h0, h1, ht⟩ := h
  by_cases hc : checkP ⟨k, n, t, l⟩ = 0
  · rw [if_pos hc]
    refine Fin.ifp hc (Fin.bind (rfits_fin code k n t l ⟨h0, h1, ht⟩) ?_)
    cases hf : fitsP code ⟨k, n, t, l⟩ with
    | true =>
      rw [if_pos rfl]
      have hB := (fits_parts hf).1
      have hwd := tab_width _ (ofC_mem hB)
      obtain ⟨w, hw⟩ := Int.eq_ofNat_of_zero_le hwd.1
      refine Fin.ifp rfl (Fin.bind (rof_fin code) ?_)
      dsimp only
      rw [hw]
      cases hs : (ofC code).sized with
      | true =>
        rw [if_pos rfl]
        refine Fin.ifp rfl ?_
        rw [u64w _ (by omega) (by omega)]
        refine Fin.bind (rbig_fin t.size w (by omega)) ?_
        exact Fin.ifp (by rw [beB_size]; omega) (Fin.const _)
      | false =>
        simp only [Bool.false_eq_true, if_false]
        by_cases h16 : (w : Int) = 16
        · rw [if_pos h16]
          exact Fin.ifp h16 (Fin.const _)
        · rw [if_neg h16]
          refine Fin.ifn h16 ?_
          obtain ⟨m, rfl⟩ := Int.eq_ofNat_of_zero_le h0
          exact Fin.bind (rbig_fin m w (by omega)) (Fin.const _)
    | false => exact Fin.const _
  · rw [if_neg hc]
    exact Fin.ifn hc (Fin.const _)
theorem whole_fin (c : Ct) (n : Nat) (hw : c.width = 1 ∨ c.width = 2 ∨ c.width = 4 ∨ c.width = 8) (ht : c.kind = 17 → c.width = 8) (hn : n < 256 ^ c.width.toNat) : Fin (fun q => polyglotref16_whole.f q (n : Int) c.kind c.width) (widenP c n : Int) := by
  refine Fin.eq (fun q => by rw [polyglotref16_whole.f]) (Fin.bind (rbits_fin c.kind) ?_)
  have jF : bitsS c.kind = false ∨ c.width = 8 → Fin (fun q => polyglotref16_whole.j0 q (n : Int) c.width false) (widenP c n : Int) := by
    intro hb
    refine Fin.step (g' := fun _ => some (n : Int)) (fun q => by simp only [polyglotref16_whole.j0, Bool.false_eq_true, if_false]) ?_
    have : widenP c n = n := by
      unfold widenP
      rcases hb with hb | hb
      · rw [if_neg (by rw [hb]; simp)]
      · rw [hb]
        split
        · show n + (2 ^ 64 - 2 ^ (8 * 8)) = n
          omega
        · rfl
    rw [this]
    exact Fin.const _
  have jT : bitsS c.kind = true → Fin (fun q => polyglotref16_whole.j0 q (n : Int) c.width true) (widenP c n : Int) := by
    intro hb
    refine Fin.step (fun q => by simp only [polyglotref16_whole.j0, if_true]; rfl) ?_
    have main : ∀ (W T : Int) (w : Nat), c.width = W → W = (w : Int) → shl .u64 1 (IntKind.u64.wrap (wrap64 ((wrap64 (8 * W)) - 1))) = T → 0 ≤ IntKind.u64.wrap (wrap64 ((wrap64 (8 * W)) - 1)) → T = ((2 ^ (8 * w - 1) : Nat) : Int) → 256 ^ w = 2 * 2 ^ (8 * w - 1) → 256 ^ w ≤ 18446744073709551616 → 1 ≤ w →
        Fin (fun _ : Nat => (if 0 ≤ (IntKind.u64.wrap (wrap64 ((wrap64 (8 * c.width)) - 1))) then (if (n : Int) ≥ (shl .u64 1 (IntKind.u64.wrap (wrap64 ((wrap64 (8 * c.width)) - 1)))) then (some (IntKind.u64.wrap ((IntKind.u64.wrap ((n : Int) - (shl .u64 1 (IntKind.u64.wrap (wrap64 ((wrap64 (8 * c.width)) - 1)))))) - (shl .u64 1 (IntKind.u64.wrap (wrap64 ((wrap64 (8 * c.width)) - 1))))))) else (some (n : Int))) else none)) (widenP c n : Int) := by
      intro W T w e1 e2 e3 e4 e5 e6 e7 e8
      rw [e1, e3]
      refine Fin.ifp e4 ?_
      have hnw : n < 256 ^ w := by rw [e1, e2] at hn; exact hn
      have hwid : widenP c n = if 2 ^ (8 * w - 1) ≤ n then n + (2 ^ 64 - 2 ^ (8 * w)) else n := by
        unfold widenP
        rw [hb, e1, e2]
        simp only [true_and, Int.toNat_natCast, show (0 : Int) < (w : Int) from by omega]
      have e9 : 2 ^ (8 * w) = 256 ^ w := by rw [Nat.pow_mul]
      have h64 : (2 : Nat) ^ 64 = 18446744073709551616 := by decide
      rw [hwid, e9, e5, h64]
      clear hwid e9 e3 e4 e5 hn
      generalize 2 ^ (8 * w - 1) = B at e6 ⊢
      generalize 256 ^ w = C at e6 e7 hnw ⊢
      by_cases hge : B ≤ n
      · rw [if_pos hge]
        refine Fin.ifp (by omega) (Fin.of fun _ => ?_)
        congr 1
        rw [u64w ((n : Int) - (B : Int)) (by omega) (by omega)]
        simp [IntKind.wrap, IntKind.bits, IntKind.signed]
        omega
      · rw [if_neg hge]
        exact Fin.ifn (by omega) (Fin.const _)
    rcases hw with e | e | e | e
    · exact main 1 128 1 e rfl (by decide +kernel) (by decide +kernel) (by decide +kernel) (by decide +kernel) (by decide +kernel) (by decide)
    · exact main 2 32768 2 e rfl (by decide +kernel) (by decide +kernel) (by decide +kernel) (by decide +kernel) (by decide +kernel) (by decide)
    · exact main 4 2147483648 4 e rfl (by decide +kernel) (by decide +kernel) (by decide +kernel) (by decide +kernel) (by decide +kernel) (by decide)
    · exact main 8 9223372036854775808 8 e rfl (by decide +kernel) (by decide +kernel) (by decide +kernel) (by decide +kernel) (by decide +kernel) (by decide)
  by_cases hs : c.kind = 7 ∨ c.kind = 8 ∨ c.kind = 9
  · refine Fin.ifp ?_ (jT ?_)
    · rcases hs with h | h | h <;> rw [h] <;> decide
    · rcases hs with h | h | h <;> rw [h] <;> decide
  · have hr : ¬ rbits c.kind < 0 := by
      unfold rbits
      rw [if_neg (by omega), if_neg (by omega), if_neg (by omega)]
      unfold bitsN
      split
      · decide
      · split
        · decide
        · split
          · decide
          · split
            · decide
            · split <;> decide
    refine Fin.ifn hr ?_
    by_cases h10 : c.kind = 10
    · rw [show (c.kind == 10) = true by simpa using h10]
      exact jT (by rw [h10]; decide)
    · rw [show (c.kind == 10) = false by simpa using h10]
      refine jF ?_
      by_cases h17 : c.kind = 17
      · exact .inr (ht h17)
      · left
        unfold bitsS
        exact decide_eq_false (by omega)
theorem time_tab : ∀ c ∈ tableL, (c.kind = 17 → c.width = 8) := by decide
theorem rget_j1 (kd n : Int) (tx : ByteArray) (p : Nat) (h : okN n tx) : Fin (fun k => polyglotref16_Get.j1 k (p : Int) kd n tx) (outR (checkE ⟨kd, n, tx, []⟩ p)) := by
  refine Fin.step (fun k => by simp only [polyglotref16_Get.j1]; rfl) ?_
  refine Fin.bind (rcheck_fin kd n tx [] h) ?_
  by_cases h2 : checkP ⟨kd, n, tx, []⟩ = 2
  · have e : outR (checkE ⟨kd, n, tx, []⟩ p) = (0, 0, ⟨#[]⟩, [], 0, 5) := by
      unfold checkE badE
      rw [if_neg (by rw [h2]; decide), if_pos h2]
      rfl
    rw [e]
    exact Fin.ifp h2 (Fin.const _)
  · refine Fin.ifn h2 ?_
    by_cases h0 : checkP ⟨kd, n, tx, []⟩ = 0
    · have e : outR (checkE ⟨kd, n, tx, []⟩ p) = (kd, n, tx, [], (p : Int), 0) := by
        unfold checkE
        rw [if_pos h0]
        rfl
      rw [e]
      exact Fin.ifp h0 (Fin.const _)
    · have e : outR (checkE ⟨kd, n, tx, []⟩ p) = (0, 0, ⟨#[]⟩, [], 0, checkP ⟨kd, n, tx, []⟩) := by
        unfold checkE badE
        rw [if_neg h0, if_neg h2]
        rfl
      rw [e]
      exact Fin.ifn h0 (Fin.const _)
theorem rget_fin (code : Int) (s : ByteArray) (hs : s.size ≤ 140737488351232) : Fin (fun k => polyglotref16_Get.f k code s) (outR (getE code s.data.toList)) := by
  refine Fin.eq (fun q => by rw [polyglotref16_Get.f]) (Fin.bind (rof_fin code) ?_)
  have j0t : ∀ a b c d e, Fin (fun q => polyglotref16_Get.j0 q code s true a b c d e) (outR (.error 8)) := fun a b c d e => Fin.step (g' := fun _ => some (outR (.error 8))) (fun q => by simp only [polyglotref16_Get.j0, if_true]; rfl) (Fin.const _)
  cases ho : ofO code with
  | none =>
    have hB : ofB code = false := by unfold ofB; rw [ho]; rfl
    have hg : getE code s.data.toList = .error 8 := by unfold getE; rw [ho]
    rw [hg, hB]
    exact Fin.ifn (by simp) (j0t _ _ _ _ _)
  | some c =>
    obtain ⟨hB, hC⟩ := ofB_of ho
    have hcm : c ∈ tableL := hC ▸ ofC_mem hB
    have hwd := tab_width c hcm
    have hcc : c.code = code := by have := ofC_code code hB; rwa [hC] at this
    rw [hB, hC]
    refine Fin.ifp rfl ?_
    dsimp only
    unfold getE
    rw [ho]
    dsimp only
    cases hi : c.items with
    | true =>
      rw [if_pos rfl]
      exact j0t _ _ _ _ _
    | false =>
      simp only [Bool.false_eq_true, if_false]
      obtain ⟨w, hw⟩ := Int.eq_ofNat_of_zero_le hwd.1
      have hwt : c.width.toNat = w := by rw [hw]; rfl
      refine Fin.step (fun q => by simp only [polyglotref16_Get.j0, Bool.false_eq_true, if_false]; rw [hw]) ?_
      unfold rawE
      dsimp only
      rw [hwt, len_list]
      by_cases hl : s.size < w
      · rw [if_pos hl]
        exact Fin.ifp (by omega) (Fin.const _)
      rw [if_neg hl]
      refine Fin.ifn (by omega) ?_
      have hex : (s.extract 0 ((w : Int)).toNat).data.toList = s.data.toList.take w := by rw [ext_list, List.drop_zero, Int.toNat_natCast]
      cases hsz : c.sized with
      | true =>
        rw [if_pos rfl]
        have hw2 := hwd.2.2.1 hsz
        refine Fin.ifp rfl (Fin.ifp (by omega) (Fin.ifp (by omega) ?_))
        refine Fin.bind (rnum_fin _ (by rw [ext_size' _ _ _ (by omega)]; omega)) ?_
        rw [hex]
        have hlt := numL_lt (s.data.toList.take w)
        rw [List.length_take, len_list, Nat.min_eq_left (by omega)] at hlt
        have hlt' : numL (s.data.toList.take w) < 4294967296 := by
          rcases hw2 with e | e <;> rw [hw] at e
          · obtain rfl : w = 1 := by omega
            omega
          · obtain rfl : w = 4 := by omega
            omega
        generalize numL (s.data.toList.take w) = N at hlt hlt'
        rw [w64 _ (by omega) (by omega), u64w _ (by omega) (by omega)]
        by_cases hn : s.size - w < N
        · rw [if_pos hn]
          exact Fin.ifp (by omega) (Fin.const _)
        · rw [if_neg hn]
          refine Fin.ifn (by omega) ?_
          rw [w64 (N : Int) (by omega) (by omega), w64 _ (by omega) (by omega)]
          refine Fin.ifp (by omega) (Fin.ifp (by omega) ?_)
          have e : s.extract ((w : Int)).toNat (((w : Int) + (N : Int))).toNat = ofBs ((s.data.toList.drop w).take N) := by
            apply bytes_eq
            rw [ext_list, ofBs_list, Int.toNat_natCast, show ((w : Int) + (N : Int)).toNat = w + N by omega, List.drop_take, Nat.add_sub_cancel_left]
          rw [e]
          have := rget_j1 c.kind 0 (ofBs ((s.data.toList.drop w).take N)) (w + N) ⟨by omega, by omega, by rw [ofBs_size, List.length_take, List.length_drop, len_list]; omega⟩
          rw [show ((w : Int) + (N : Int)) = ((w + N : Nat) : Int) by omega]
          exact this
      | false =>
        simp only [Bool.false_eq_true, if_false]
        have hw8 := tab_sizes c hcm hi hsz
        by_cases h16 : c.width = 16
        · rw [if_pos h16]
          obtain rfl : w = 16 := by omega
          refine Fin.ifp rfl (Fin.ifp (by omega) ?_)
          have e : s.extract 0 16 = ofBs (s.data.toList.take 16) := by
            apply bytes_eq
            rw [ext_list, ofBs_list, List.drop_zero]
          rw [e]
          exact rget_j1 c.kind 0 _ 16 ⟨by omega, by omega, by rw [ofBs_size, List.length_take, len_list]; omega⟩
        · rw [if_neg h16]
          refine Fin.ifn (by omega) ?_
          by_cases h65 : c.code = 65
          · rw [if_pos h65]
            have hw0 := (hwd.2.2.2 h65).2.1
            obtain rfl : w = 0 := by omega
            refine Fin.ifp (by rw [← hcc]; exact h65) ?_
            exact rget_j1 c.kind 1 ⟨#[]⟩ 0 ⟨by omega, by omega, by decide⟩
          · rw [if_neg h65]
            refine Fin.ifn (by rw [← hcc]; exact h65) ?_
            have hlt := numL_lt (s.data.toList.take w)
            rw [List.length_take, len_list, Nat.min_eq_left (by omega)] at hlt
            by_cases hw0 : w = 0
            · subst hw0
              refine Fin.ifn (by omega) ?_
              have hz : numL (s.data.toList.take 0) = 0 := by simp [numL]
              rw [hz, widen_zero c (by rw [hw]; rfl)]
              exact rget_j1 c.kind 0 ⟨#[]⟩ 0 ⟨by omega, by omega, by decide⟩
            · refine Fin.ifp (by omega) (Fin.ifp (by omega) (Fin.ifp (by omega) ?_))
              refine Fin.bind (rnum_fin _ (by rw [ext_size' _ _ _ (by omega)]; omega)) ?_
              rw [hex]
              have hwf := whole_fin c (numL (s.data.toList.take w)) (by omega) (time_tab c hcm) (by rw [hwt]; exact hlt)
              rw [hw] at hwf
              refine Fin.bind hwf ?_
              have hwm := widen_mod c (numL (s.data.toList.take w)) (by omega) (by rw [hwt]; exact hlt)
              exact rget_j1 c.kind _ ⟨#[]⟩ w ⟨by omega, by have := hwm.2; omega, by decide⟩
end Go.Proofs.YtekpofpgkokoiaaDoor.P
