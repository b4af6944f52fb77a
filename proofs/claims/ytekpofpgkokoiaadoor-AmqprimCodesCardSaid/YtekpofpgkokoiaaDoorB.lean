/- Walks of amqprim.says, Fits, Least over the contracts of Of and Codes. -/
import Derived.Test.YtekpofpgkokoiaaDoorC
set_option linter.unusedVariables false
set_option linter.unusedSimpArgs false
namespace Go.Proofs.YtekpofpgkokoiaaDoor.M
open Go.RowKit Go.Proofs.YtekpofpgkokoiaaDoorW.PrintWords

set_option maxRecDepth 100000 in
set_option maxHeartbeats 2000000 in
theorem says_calls (c1 c2 c3 : Int) (c4 c5 : Bool) (k n : Int) (s : ByteArray) (items : List Vl) (A : Option Addr) (l cp : Nat) (w : World) (h0 : 0 ≤ n) (h1 : n < 18446744073709551616) (hs : s.size ≤ 9223372036854775807) :
    Calls Tryd.prog 86 #[.agg #[.int .i64 c1, .int .i64 c2, .int .i64 c3, .bool c4, .bool c5], .agg #[.int .i64 k, .int .u64 n, .string s, .slice A l cp]] w fun e w' => e = .returned (.bool (saysP ⟨c1, c2, c3, c4, c5⟩ ⟨k, n, s, items⟩)) ∧ Below w.heap.size w w' := by
  go_enter Tryd.func86, Tryd.ntmps86
  go_wp2_with (first | (go_at_call 79; refine (bits_calls _ _).mono ?_; rintro e w1 ⟨rfl, rfl⟩) | (go_at_call 80; refine (fitsBits_calls _ _ _ _ h0 h1 (by unfold okB; cases bitsS c2 <;> simp)).mono ?_; rintro e w1 ⟨rfl, rfl⟩))
  all_goals
    go_ret
    refine ⟨ret_b ?_, below_alloc (below_new _ _) _⟩
    simp only [saysP]
    grind

theorem saysP_eta (c : Ct) (q : Int) (v : Vl) (h : c.kind = q) : saysP ⟨c.code, q, c.width, c.sized, c.items⟩ v = saysP c v := by subst h; rfl

set_option maxRecDepth 100000 in
set_option maxHeartbeats 2000000 in
theorem Fits_calls (code : Int) (k n : Int) (s : ByteArray) (items : List Vl) (A : Option Addr) (cp : Nat) (w : World) (h0 : 0 ≤ n) (h1 : n < 18446744073709551616) (hs : s.size ≤ 9223372036854775807) (hT : Tb w) (hl : items.length ≤ 9223372036854775807) :
    Calls Tryd.prog 24 #[.int .i64 code, .agg #[.int .i64 k, .int .u64 n, .string s, .slice A items.length cp]] w fun e w' => e = .returned (.bool (fitsP code ⟨k, n, s, items⟩)) ∧ Below w.heap.size w w' := by
  go_enter Tryd.func24, Tryd.ntmps24
  go_wp2_with (first | (go_at_call 23; refine (Of_calls _ _).mono ?_; rintro e w1 ⟨rfl, hb1⟩; have HB1 := below_step (below_new _ _) hb1; obtain ⟨hc1, hf1⟩ := kept_cells hb1; have hz1 := new_lt hb1) | (go_at_call 21; refine (Check_calls _ _ _ _ _ _ _ h0 h1 hs ((hT.below HB1).alloc _) hl).mono ?_; rintro e w2 ⟨rfl, hb2⟩; have HB2 := below_step (below_alloc HB1 _) hb2; obtain ⟨hc2, hf2⟩ := kept_cells hb2; have hz2 := new_lt hb2; have hz3 := Nat.lt_trans hz1 hz2) | (go_at_call 86; refine (says_calls _ _ _ _ _ _ _ _ items _ _ _ _ h0 h1 hs).mono ?_; rintro e w3 ⟨rfl, hb3⟩))
  all_goals
    go_ret
    refine ⟨ret_b ?_, by first | exact below_step HB2 hb3 | exact HB2 | exact below_alloc HB1 _⟩
    simp only [fitsP]
    grind [saysP_eta]

theorem find_drop {p : Int → Bool} {l : List Int} {j : Nat} (h : j < l.length) : (l.drop j).find? p = if p l[j] = true then some l[j] else (l.drop (j + 1)).find? p := by
  rw [List.drop_eq_getElem_cons h, List.find?_cons]
  cases p l[j] <;> rfl
theorem leastP_bad {v : Vl} (h : ¬ checkP v = 0) : leastP v = (0, checkP v) := by unfold leastP; rw [if_neg h]
theorem leastP_some {v : Vl} {c : Int} (h : checkP v = 0) (hf : (codesL v.kind).find? (fun c => fitsP c v) = some c) : leastP v = (c, 0) := by unfold leastP; rw [if_pos h, hf]
theorem leastP_none {v : Vl} (h : checkP v = 0) (hf : (codesL v.kind).find? (fun c => fitsP c v) = none) : leastP v = (0, 2) := by unfold leastP; rw [if_pos h, hf]
theorem add_block (a : Addr) (j : Nat) : (a.add j).block = a.block := by unfold Addr.add; split <;> rfl
/-- A row of numbers that is made is read, place by place. -/
theorem nums_at {w : World} {base : Nat} {ok : Nat → Prop} {v : Value} {xs : List Int} {k : IntKind} {e : Nat} (h : Kd.R (Kd.int k) e w base ok v xs) :
    ∃ A c, v = .slice A xs.length c ∧ ∀ j, (hj : j < xs.length) → ∃ ad : Addr, A = some ad ∧ ad.block < w.heap.size ∧ w.cell? (ad.add j) = some (.int k xs[j]) := by
  obtain ⟨A, c, e, hl, hC⟩ := Kd.R_reads h
  refine ⟨A, c, e, fun j hj => ?_⟩
  obtain ⟨_, hA⟩ := Kd.reads_of_C (d := 0) hC |>.2
  obtain ⟨ad, ha, hc⟩ := hA (by omega)
  have h1 := hc j hj
  rw [List.getD_eq_getElem?_getD, List.getElem?_eq_getElem hj] at h1
  exact ⟨ad, ha, add_block ad j ▸ World.block_lt_of_cell? w _ h1, h1⟩

set_option maxRecDepth 100000 in
set_option maxHeartbeats 2000000 in
theorem Least_calls (k n : Int) (s : ByteArray) (items : List Vl) (A : Option Addr) (cp : Nat) (w : World) (h0 : 0 ≤ n) (h1 : n < 18446744073709551616) (hs : s.size ≤ 9223372036854775807) (hT : Tb w) (hl : items.length ≤ 9223372036854775807) :
    Calls Tryd.prog 41 #[.agg #[.int .i64 k, .int .u64 n, .string s, .slice A items.length cp]] w fun e w' => e = .returned (.tuple #[.int .i64 (leastP ⟨k, n, s, items⟩).1, .int .i64 (leastP ⟨k, n, s, items⟩).2]) ∧ Below w.heap.size w w' := by
  by_cases hck : checkP ⟨k, n, s, items⟩ = 0
  · have HC := Lib.hid hck
    clear hck
    go_enter Tryd.func41, Tryd.ntmps41
    go_wp2_with (first | (go_at_call 21; refine (Check_calls _ _ _ _ _ _ _ h0 h1 hs (hT.alloc _) hl).mono ?_; rw [HC.out]; rintro e w1 ⟨rfl, hb1⟩; have HB1 := below_step (below_new _ _) hb1; obtain ⟨hc1, hf1⟩ := kept_cells hb1; have hz1 := new_lt hb1) | (go_at_call 20; refine (Codes_calls _ _).mono ?_; rintro e w2 ⟨v, rfl, hR, hb2⟩; have HB2 := below_step HB1 hb2; obtain ⟨hc2, hf2⟩ := kept_cells hb2; have hz2 := Nat.lt_of_lt_of_le hz1 hb2.size; obtain ⟨A', c', hv, hat⟩ := nums_at hR; rw [hv]))
    have hle := codesL_le k
    have HF0 : (codesL k).find? (fun c => fitsP c ⟨k, n, s, items⟩) = ((codesL k).drop 0).find? (fun c => fitsP c ⟨k, n, s, items⟩) := rfl
    go_loopw [6, 16] (fun _ i wr => ∃ j : Nat, j ≤ (codesL k).length ∧ i = .int .i64 j ∧ Below w2.heap.size w2 wr ∧ Hid ((codesL k).find? (fun c => fitsP c ⟨k, n, s, items⟩) = ((codesL k).drop j).find? (fun c => fitsP c ⟨k, n, s, items⟩))) (fun _ i _ => (codesL k).length - (intOf i).toNat)
    case atStart => exact ⟨0, Nat.zero_le _, rfl, Below.refl _ _, Lib.hid HF0⟩
    case round =>
      obtain ⟨j, hj, rfl, hbr, HF⟩ := hrel
      clear HF0
      obtain ⟨hcr, hfr⟩ := kept_cells hbr
      by_cases hlt : j < (codesL k).length
      · obtain ⟨ad, rfl, had, hca⟩ := hat j hlt
        have hcell : wr.cell? (ad.add j) = some (.int .i64 (codesL k)[j]) := (hbr.cell (by rw [add_block]; exact had)).trans hca
        go_wp2_with (go_at_call 24; refine (Fits_calls _ _ _ _ _ _ _ _ h0 h1 hs (hT.below (below_step HB2 hbr)) hl).mono ?_; rintro e w3 ⟨rfl, hb3⟩; have HB3 := below_step hbr hb3)
        · go_ret2
          have hfit : fitsP (codesL k)[j] ⟨k, n, s, items⟩ = true := by assumption
          have hfin := leastP_some HC.out (HF.out.trans ((find_drop hlt).trans (if_pos hfit)))
          exact ⟨ret_ii (by rw [hfin]) (by rw [hfin]), below_step HB2 HB3⟩
        · go_roundw
          case rel =>
            have hfit : fitsP (codesL k)[j] ⟨k, n, s, items⟩ = false := by assumption
            exact ⟨j + 1, by omega, by go_num, HB3, Lib.hid (HF.out.trans ((find_drop hlt).trans (if_neg (by rw [hfit]; simp))))⟩
          case measure => simp [intOf]; omega
      · go_wp2
        go_ret2
        have hfin := leastP_none HC.out (HF.out.trans (by rw [List.drop_eq_nil_of_le (by omega)]; rfl))
        exact ⟨ret_ii (by rw [hfin]) (by rw [hfin]), below_step HB2 hbr⟩
  · rw [leastP_bad hck]
    have HC := Lib.hid hck
    clear hck
    go_enter Tryd.func41, Tryd.ntmps41
    go_wp2_with (first | (go_at_call 21; refine (Check_calls _ _ _ _ _ _ _ h0 h1 hs (hT.alloc _) hl).mono ?_; rintro e w1 ⟨rfl, hb1⟩; have hne := HC.out))
    go_ret2
    exact ⟨rfl, below_step (below_new _ _) hb1⟩
end Go.Proofs.YtekpofpgkokoiaaDoor.M
