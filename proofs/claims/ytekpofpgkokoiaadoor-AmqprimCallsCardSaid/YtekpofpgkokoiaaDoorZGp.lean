/- A part of this claim: what its theorem leans on. -/
import Derived.Test.YtekpofpgkokoiaaDoorZKp
import Derived.Test.YtekpofpgkokoiaaDoorZQamqprimaD
import Derived.Laws.BitsLemmas
set_option linter.unusedVariables false
set_option linter.unusedSimpArgs false
namespace Go.Proofs.YtekpofpgkokoiaaDoor.P
open Go.RowKit Go.Proofs.YtekpofpgkokoiaaDoor.M Go.Proofs.YtekpofpgkokoiaaDoor.Q Go.Proofs.YtekpofpgkokoiaaDoorW.PrintWords
theorem shift_byte (a b : Int) (ha : 0 ≤ a) (ha1 : a < 72057594037927936) (hb : 0 ≤ b) (hb1 : b < 256) :
    Go.bits .or .u64 (IntKind.u64.wrap (a * 256)) (IntKind.u64.wrap b) = a * 256 + b := by
  rw [u64w _ (by omega) (by omega), u64w _ hb (by omega)]
  have e8 : (2 : Int) ^ 8 = 256 := rfl
  have e64 : (2 : Int) ^ 64 = 18446744073709551616 := rfl
  exact bits_join .u64 64 (by decide) (fun n h0 h1 => u64w n h0 (by omega)) 8 (a * 256) b (by omega) (by omega) (by omega) hb (by omega) (by omega)
theorem octet_get (s : ByteArray) (hs : s.size ≤ 8) : Fin (fun k => octet_Get.f k s) (numL s.data.toList : Int) := by
  have loop : ∀ (d i : Nat), i + d = s.size → Fin (fun q => octet_Get.l0 q s (numL (s.data.toList.take i) : Int) (s.size : Int) (i : Int)) (numL s.data.toList : Int) := by
    intro d
    induction d with
    | zero =>
      intro i hi
      refine Fin.step (g' := fun _ => some (numL s.data.toList : Int)) (fun q => ?_) (Fin.const _)
      simp only [octet_Get.l0]
      rw [if_neg (by omega), List.take_of_length_le (by rw [len_list]; omega)]
    | succ d ihd =>
      intro i hi
      have h1 : i < s.size := by omega
      have hn : numL (s.data.toList.take i) < 256 ^ i := by
        have := numL_lt (s.data.toList.take i)
        rwa [List.length_take, len_list, Nat.min_eq_left (by omega)] at this
      have hp : (256 : Nat) ^ i ≤ 256 ^ 7 := Nat.pow_le_pow_right (by omega) (by omega)
      have hb := (s.data.toList[i]'h1).toNat_lt
      refine Fin.step (fun q => by simp only [octet_Get.l0]; rw [if_pos (by omega), if_pos (by omega), if_pos (by omega), bt_at' h1, shift_byte _ _ (by omega) (by omega) (by omega) (by omega), w64s i (by omega)]) ?_
      have := ihd (i + 1) (by omega)
      rw [List.take_succ_eq_append_getElem (show i < s.data.toList.length from h1), numL_snoc] at this
      rw [show ((numL (s.data.toList.take i) : Int) * 256 + ((s.data.toList[i]'h1).toNat : Int)) = ((numL (s.data.toList.take i) * 256 + (s.data.toList[i]'h1).toNat : Nat) : Int) by omega]
      exact this
  refine Fin.eq (fun q => by rw [octet_Get.f, if_neg (by omega)]) (Fin.step (fun q => by simp only [octet_Get.j0]; rfl) ?_)
  exact loop s.size 0 (by omega)
theorem take_ok (t : ByteArray) (p n : Nat) (h : p + n ≤ t.size) (ht : t.size ≤ 140737488351232) : octet_Cursor_Take.f t (p : Int) 0 (n : Int) = some (t.extract p (p + n), t, ((p + n : Nat) : Int), 0) := by
  simp only [octet_Cursor_Take.f, octet_Cursor_ready.f, octet_Cursor_has.f, Option.bind_some]
  rw [if_pos (by rfl), if_pos (by omega)]
  simp only [Option.bind_some]
  rw [w64 _ (by omega) (by omega), if_pos (by simp; omega), w64 _ (by omega) (by omega), if_pos (by omega), if_pos (by omega), if_pos (by omega)]
  rw [show ((p : Int) + (n : Int)) = ((p + n : Nat) : Int) by omega]
  rfl
theorem take_short (t : ByteArray) (p : Nat) (n : Int) (h0 : p ≤ t.size) (h : n < 0 ∨ (t.size : Int) < p + n) (ht : t.size ≤ 140737488351232) (hn : n ≤ 9223372036854775807) : octet_Cursor_Take.f t (p : Int) 0 n = some (⟨#[]⟩, t, (p : Int), 3) := by
  simp only [octet_Cursor_Take.f, octet_Cursor_ready.f, octet_Cursor_has.f, Option.bind_some]
  rw [if_pos (by rfl)]
  by_cases hn0 : n ≥ 0
  · rw [if_pos hn0]
    simp only [Option.bind_some]
    rw [w64 _ (by omega) (by omega), if_neg (by simp; omega)]
  · rw [if_neg hn0]
    simp only [Option.bind_some, Bool.false_eq_true, if_false]
theorem take_err (t : ByteArray) (p n e : Int) (he : e ≠ 0) : octet_Cursor_Take.f t p e n = some (⟨#[]⟩, t, p, e) := by
  simp only [octet_Cursor_Take.f, octet_Cursor_ready.f, Option.bind_some]
  rw [if_neg (by simpa using he)]
theorem left_ok (t : ByteArray) (p : Nat) (e : Int) (h : p ≤ t.size) : octet_Cursor_Left.f t (p : Int) e = some (((t.size - p : Nat) : Int), t, (p : Int), e) := by
  simp only [octet_Cursor_Left.f, octet_Cursor_Rest.f]
  rw [if_pos (by omega), if_pos (by omega)]
  simp only [Option.bind_some]
  rw [ext_size' _ _ _ (Nat.le_refl _)]
  rw [show (p : Int).toNat = p by omega]
theorem number_ok (t : ByteArray) (p n : Nat) (h : p + n ≤ t.size) (hn : n ≤ 8) (ht : t.size ≤ 140737488351232) : Fin (fun k => octet_Cursor_Number.f k t (p : Int) 0 (n : Int)) ((numL ((t.data.toList.drop p).take n) : Int), t, ((p + n : Nat) : Int), 0) := by
  refine Fin.eq (g' := fun k => (octet_Get.f k (t.extract p (p + n))).bind fun r => some (r, t, ((p + n : Nat) : Int), 0)) (fun k => by simp only [octet_Cursor_Number.f]; rw [take_ok t p n h ht]; rfl) ?_
  refine Fin.bind (octet_get _ (by rw [ext_size' _ _ _ h]; omega)) ?_
  rw [ext_list, List.drop_take, show p + n - p = n by omega]
  exact Fin.const _
theorem number_short (t : ByteArray) (p : Nat) (n : Int) (h0 : p ≤ t.size) (h : (t.size : Int) < p + n) (ht : t.size ≤ 140737488351232) (hn : n ≤ 9223372036854775807) : Fin (fun k => octet_Cursor_Number.f k t (p : Int) 0 n) (0, t, (p : Int), 3) := by
  refine Fin.eq (g' := fun k => (octet_Get.f k ⟨#[]⟩).bind fun r => some (r, t, (p : Int), 3)) (fun k => by simp only [octet_Cursor_Number.f]; rw [take_short t p n h0 (.inr h) ht hn]; rfl) ?_
  exact Fin.bind (octet_get ⟨#[]⟩ (by decide)) (Fin.const _)
theorem bits_fin (k : Int) : Fin (fun q => amqprim_bits.f q k) (bitsN k, bitsS k) := by
  refine ⟨2, fun q hq => ?_⟩
  obtain ⟨m, rfl⟩ : ∃ m, q = m + 2 := ⟨q - 2, by omega⟩
  by_cases h : 2 ≤ k ∧ k ≤ 17
  · rcases (by omega : k = 2 ∨ k = 3 ∨ k = 4 ∨ k = 5 ∨ k = 6 ∨ k = 7 ∨ k = 8 ∨ k = 9 ∨ k = 10 ∨ k = 11 ∨ k = 12 ∨ k = 13 ∨ k = 14 ∨ k = 15 ∨ k = 16 ∨ k = 17) with rfl | rfl | rfl | rfl | rfl | rfl | rfl | rfl | rfl | rfl | rfl | rfl | rfl | rfl | rfl | rfl <;> rfl
  · have hn : bitsN k = 0 := by
      unfold bitsN
      rw [if_neg (by omega), if_neg (by omega), if_neg (by omega), if_neg (by omega), if_neg (by omega)]
    have hs : bitsS k = false := by
      unfold bitsS
      exact decide_eq_false (by omega)
    have e : ∀ c : Int, 2 ≤ c → c ≤ 17 → (k == c) = false := fun c h1 h2 => by rw [beq_eq_false_iff_ne]; omega
    simp only [amqprim_bits.f]
    rw [if_neg (by omega), if_neg (by omega), if_neg (by omega), if_neg (by omega), if_neg (by omega), if_neg (by omega), e 16 (by omega) (by omega)]
    simp only [amqprim_bits.j0, Bool.false_eq_true, if_false]
    rw [if_neg (by omega), if_neg (by omega), e 14 (by omega) (by omega)]
    simp only [amqprim_bits.j1, Bool.false_eq_true, if_false]
    rw [if_neg (by omega), if_neg (by omega), if_neg (by omega), if_neg (by omega), if_neg (by omega), hn, hs]
theorem widen_fin (c : Ct) (n : Nat) (hw : c.width = 0 ∨ c.width = 1 ∨ c.width = 2 ∨ c.width = 4 ∨ c.width = 8) (hn : n < 256 ^ c.width.toNat) : Fin (fun k => amqprim_widen.f k c.code c.kind c.width c.sized c.items n) (widenP c n : Int) := by
  refine Fin.eq (g' := fun k => (amqprim_bits.f k c.kind).bind fun bt => if bt.2 = true then (if c.width > 0 then (if 0 ≤ (wrap64 (64 - (wrap64 (8 * c.width)))) then (some (IntKind.u64.wrap (shr .i64 (wrap64 (shl .u64 n (wrap64 (64 - (wrap64 (8 * c.width)))))) (wrap64 (64 - (wrap64 (8 * c.width))))))) else (none)) else (some (n : Int))) else (some (n : Int))) (fun k => rfl) ?_
  refine Fin.bind (bits_fin c.kind) (Fin.of fun _ => ?_)
  dsimp only
  unfold widenP
  cases hs : bitsS c.kind with
  | false =>
    rw [if_neg (by simp), if_neg (by simp)]
  | true =>
    rw [if_pos rfl]
    rcases hw with e | e | e | e | e <;> rw [e] at hn ⊢
    · rw [if_neg (by omega), if_neg (by omega)]
    all_goals
      rw [if_pos (by omega), if_pos (by simp [wrap64])]
      congr 1
      simp only [true_and]
      have hn' : n < 256 ^ 8 := Nat.lt_of_lt_of_le hn (Nat.pow_le_pow_right (by omega) (by decide))
      simp [shl, shr, IntKind.wrap, IntKind.bits, IntKind.signed, wrap64] at hn ⊢
      first | (split <;> omega) | omega
def outR (r : Rd) : Int × Int × ByteArray × List Vl × Int × Int := match r with
  | .ok (v, n) => (v.kind, v.n, v.text, v.items, (n : Int), 0)
  | .error e => (0, 0, ⟨#[]⟩, [], 0, e)
theorem get_j1 (kd n : Int) (tx t : ByteArray) (p : Nat) (h : okN n tx) : Fin (fun k => amqprim_Get.j1 k kd n tx t (p : Int) 0) (outR (checkE ⟨kd, n, tx, []⟩ p)) := by
  refine Fin.step (g' := fun _ => some (outR (checkE ⟨kd, n, tx, []⟩ p))) (fun k => ?_) (Fin.const _)
  simp only [amqprim_Get.j1, octet_Cursor_Err.f, octet_Cursor_At.f, Option.bind_some, if_true, amqprim_Check.f]
  rw [if_pos h]
  simp only [Option.bind_some]
  unfold checkE badE
  split
  · rfl
  · split
    · rfl
    · rfl
theorem get_j1e (kd n : Int) (tx t : ByteArray) (p e : Int) (h : e ≠ 0) : Fin (fun k => amqprim_Get.j1 k kd n tx t p e) (outR (.error e)) := by
  refine Fin.step (g' := fun _ => some (outR (.error e))) (fun k => ?_) (Fin.const _)
  simp only [amqprim_Get.j1, octet_Cursor_Err.f, Option.bind_some]
  rw [if_neg h]
  rfl
theorem get_fin (code : Int) (s : ByteArray) (hs : s.size ≤ 140737488351232) : Fin (fun k => amqprim_Get.f k code s) (outR (getE code s.data.toList)) := by
  have jT : ∀ a b c d e f g i, Fin (fun k => amqprim_Get.j0 k s true a b c d e f g i) (0, 0, ⟨#[]⟩, [], 0, 8) := fun a b c d e f g i => Fin.step (g' := fun _ => some (0, 0, ⟨#[]⟩, [], 0, 8)) (fun k => by simp only [amqprim_Get.j0, if_true]) (Fin.const _)
  cases ho : ofO code with
  | none =>
    have hb : ofB code = false := by unfold ofB; rw [ho]; rfl
    have hg : getE code s.data.toList = .error 8 := by unfold getE; rw [ho]
    rw [hg]
    refine Fin.eq (fun k => by simp only [amqprim_Get.f, amqprim_Of.f, Option.bind_some, hb, Bool.false_eq_true, if_false]; rfl) (jT _ _ _ _ _ _ _ _)
  | some c =>
    obtain ⟨hb, hc⟩ := ofB_of ho
    have hcm : c ∈ tableL := hc ▸ ofC_mem hb
    by_cases hi : c.items = true
    · have hg : getE code s.data.toList = .error 8 := by unfold getE; rw [ho]; simp only [hi, if_true]
      rw [hg]
      refine Fin.eq (fun k => by simp only [amqprim_Get.f, amqprim_Of.f, Option.bind_some, hb, hc, hi, if_true]; rfl) (jT _ _ _ _ _ _ _ _)
    · simp only [Bool.not_eq_true] at hi
      have hwd := tab_width c hcm
      have hg : getE code s.data.toList = (match rawE c s.data.toList with | .error e => .error e | .ok (v, n) => checkE v n) := by
        unfold getE
        rw [ho]
        simp only [hi, Bool.false_eq_true, if_false]
        rfl
      rw [hg]
      obtain ⟨wn, hwn⟩ := Int.eq_ofNat_of_zero_le hwd.1
      have hwt : c.width.toNat = wn := by omega
      have hwt16 : ∀ c ∈ tableL, c.sized = false → c.width = 16 ∨ c.width = 0 ∨ c.width = 1 ∨ c.width = 2 ∨ c.width = 4 ∨ c.width = 8 := by decide
      refine Fin.eq (fun k => by simp only [amqprim_Get.f, amqprim_Of.f, Option.bind_some, hb, hc, hi, if_true]; rfl) (Fin.step (fun k => by simp only [amqprim_Get.j0, octet_New.f, Option.bind_some, Bool.false_eq_true, if_false]; rfl) ?_)
      unfold rawE
      dsimp only
      rw [hwt, hwn, len_list]
      by_cases hsz : c.sized = true
      · rw [if_pos hsz]
        refine Fin.ifp hsz ?_
        have hw4 : wn ≤ 8 := by have := hwd.2.2.1 hsz; omega
        by_cases hl : s.size < wn
        · rw [if_pos hl]
          refine Fin.bind (number_short s 0 (wn : Int) (by omega) (by omega) hs (by omega)) ?_
          refine Fin.bc (left_ok s 0 3 (by omega)) ?_
          refine Fin.ifn (by rw [u64w _ (by omega) (by omega)]; omega) ?_
          refine Fin.bc (take_err _ _ _ 3 (by decide)) ?_
          exact get_j1e _ _ _ _ _ 3 (by decide)
        · rw [if_neg hl]
          have hnum := number_ok s 0 wn (by omega) hw4 hs
          rw [List.drop_zero, Nat.zero_add] at hnum
          refine Fin.bind hnum ?_
          have hlt := numL_lt (s.data.toList.take wn)
          have hlen : (s.data.toList.take wn).length = wn := by rw [List.length_take, len_list]; omega
          rw [hlen] at hlt
          have hlt8 : numL (s.data.toList.take wn) < 256 ^ 4 := Nat.lt_of_lt_of_le hlt (Nat.pow_le_pow_right (by omega) (by have := hwd.2.2.1 hsz; omega))
          refine Fin.bc (left_ok s wn 0 (by omega)) ?_
          by_cases hn : s.size - wn < numL (s.data.toList.take wn)
          · rw [if_pos hn]
            exact Fin.ifp (by rw [u64w _ (by omega) (by omega)]; omega) (Fin.const _)
          · rw [if_neg hn]
            refine Fin.ifn (by rw [u64w _ (by omega) (by omega)]; omega) ?_
            dsimp only
            rw [w64 _ (by omega) (by omega)]
            refine Fin.bc (take_ok s wn _ (by omega) hs) ?_
            have he : s.extract wn (wn + numL (s.data.toList.take wn)) = ofBs ((s.data.toList.drop wn).take (numL (s.data.toList.take wn))) := by
              apply bytes_eq
              rw [ext_list, ofBs_list, List.drop_take, show wn + numL (s.data.toList.take wn) - wn = numL (s.data.toList.take wn) by omega]
            rw [he]
            exact get_j1 _ _ _ _ _ ⟨by omega, by omega, by rw [ofBs_size, List.length_take, List.length_drop, len_list]; omega⟩
      · rw [if_neg hsz]
        refine Fin.ifn hsz ?_
        simp only [Bool.not_eq_true] at hsz
        by_cases h16 : wn = 16
        · subst h16
          refine Fin.ifp (by rfl) ?_
          by_cases hl : s.size < 16
          · rw [if_pos hl]
            refine Fin.bc (take_short s 0 16 (by omega) (.inr (by omega)) hs (by omega)) ?_
            exact get_j1e _ _ _ _ _ 3 (by decide)
          · rw [if_neg hl, if_pos (by rfl)]
            refine Fin.bc (take_ok s 0 16 (by omega) hs) ?_
            have he : s.extract 0 (0 + 16) = ofBs (s.data.toList.take 16) := by
              apply bytes_eq
              rw [ext_list, ofBs_list, List.drop_zero]
            rw [he]
            exact get_j1 _ _ _ _ _ ⟨by omega, by omega, by rw [ofBs_size, List.length_take, len_list]; omega⟩
        · have hw8 : wn = 0 ∨ wn = 1 ∨ wn = 2 ∨ wn = 4 ∨ wn = 8 := by have := hwt16 c hcm hsz; omega
          have h16i : ¬ ((wn : Int) = 16) := by omega
          refine Fin.ifn h16i ?_
          simp only [h16i, if_false]
          by_cases h65 : c.code = 65
          · have hw0 : wn = 0 := by have := (hwd.2.2.2 h65).2.1; omega
            subst hw0
            refine Fin.ifp h65 ?_
            rw [if_neg (Nat.not_lt_zero _), if_pos h65]
            exact get_j1 c.kind 1 ⟨#[]⟩ s 0 ⟨by omega, by omega, by decide⟩
          · refine Fin.ifn h65 ?_
            rw [if_neg h65]
            by_cases hl : s.size < wn
            · rw [if_pos hl]
              refine Fin.bind (number_short s 0 (wn : Int) (by omega) (by omega) hs (by omega)) ?_
              refine Fin.bind (a := 0) ?_ (get_j1e _ _ _ _ _ 3 (by decide))
              have := widen_fin c 0 (by omega) (Nat.pow_pos (by decide))
              have hz : widenP c 0 = 0 := by
                unfold widenP
                rw [if_neg]
                rintro ⟨_, h1, h2⟩
                have : 0 < 2 ^ (8 * c.width.toNat - 1) := Nat.pos_of_ne_zero (by simp)
                omega
              rw [hz, hi, hsz, hwn] at this
              rw [hsz]
              exact this
            · rw [if_neg hl]
              have hnum := number_ok s 0 wn (by omega) (by omega) hs
              rw [List.drop_zero, Nat.zero_add] at hnum
              refine Fin.bind hnum ?_
              have hlt := numL_lt (s.data.toList.take wn)
              have hlen : (s.data.toList.take wn).length = wn := by rw [List.length_take, len_list]; omega
              rw [hlen] at hlt
              have hwf := widen_fin c (numL (s.data.toList.take wn)) (by omega) (by rw [hwt]; exact hlt)
              rw [hi, hsz, hwn] at hwf
              rw [hsz]
              refine Fin.bind hwf ?_
              refine get_j1 c.kind _ ⟨#[]⟩ s wn ⟨by omega, ?_, by decide⟩
              unfold widenP
              rw [hwt]
              split
              · rcases hw8 with e | e | e | e | e <;> subst e <;> (try simp only [Nat.reduceMul, Nat.reducePow, Nat.reduceSub] at hlt ⊢) <;> omega
              · rcases hw8 with e | e | e | e | e <;> subst e <;> (try simp only [Nat.reduceMul, Nat.reducePow, Nat.reduceSub] at hlt ⊢) <;> omega
end Go.Proofs.YtekpofpgkokoiaaDoor.P
