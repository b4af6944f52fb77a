/- Walks of amqprim's small functions: bits, fitsBits, codePoint, textual. -/
import Derived.Test.YtekpofpgkokoiaaDoorBase
set_option linter.unusedVariables false
set_option linter.unusedSimpArgs false
namespace Go.Proofs.YtekpofpgkokoiaaDoor.M
open Go.RowKit Go.Proofs.YtekpofpgkokoiaaDoorW.PrintWords

set_option maxHeartbeats 1000000 in
theorem bits_calls (k : Int) (w : World) : Calls Tryd.prog 79 #[.int .i64 k] w fun e w' => e = .returned (.tuple #[.int .i64 (bitsN k), .bool (bitsS k)]) ∧ w = w' := by
  go_enter Tryd.func79, Tryd.ntmps79
  go_wp2
  all_goals
    simp only [beq_iff_eq, beq_eq_false_iff_ne, ne_eq] at *
    go_ret2
    refine ⟨ret_ib ?_ ?_, rfl⟩ <;> (first | (subst_vars; rfl) | (simp [bitsN, bitsS, *]; done) | (simp only [bitsS]; apply Eq.symm; apply decide_eq_false; omega) | (simp only [bitsN]; repeat' split) <;> omega)

def okB (b : Int) (s : Bool) : Prop := (s = false ∧ (b = 0 ∨ b = 1 ∨ b = 8 ∨ b = 16 ∨ b = 32 ∨ b = 64)) ∨ (s = true ∧ (b = 8 ∨ b = 16 ∨ b = 32 ∨ b = 64))
theorem okB_bits (k : Int) : okB (bitsN k) (bitsS k) := by
  unfold okB bitsN bitsS
  by_cases h : 7 ≤ k ∧ k ≤ 10 ∨ k = 17
  · right
    simp only [h, decide_true, true_and]
    repeat' split
    all_goals omega
  · left
    simp only [h, decide_false, true_and]
    repeat' split
    all_goals omega

set_option maxHeartbeats 1000000 in
theorem fitsBits_calls (n b : Int) (s : Bool) (w : World) (h0 : 0 ≤ n) (h1 : n < 18446744073709551616) (hb : okB b s) : Calls Tryd.prog 80 #[.int .u64 n, .int .i64 b, .bool s] w fun e w' => e = .returned (.bool (fitsB n b s)) ∧ w = w' := by
  rcases hb with ⟨rfl, hb⟩ | ⟨rfl, hb⟩
  · rcases hb with rfl | rfl | rfl | rfl | rfl | rfl
    all_goals
      go_enter Tryd.func80, Tryd.ntmps80
      go_wp2
      go_ret
      refine ⟨ret_b ?_, rfl⟩
      simp only [fitsB, Bool.false_eq_true, if_false]
      rw [Bool.eq_iff_iff]
      simp
      try omega
  · have hw : wrap64 n = if n < 9223372036854775808 then n else n - 18446744073709551616 := by
      unfold wrap64
      split <;> omega
    have Hw := Lib.hid hw
    clear hw
    rcases hb with rfl | rfl | rfl | rfl
    all_goals
      go_enter Tryd.func80, Tryd.ntmps80
      go_wp2
      all_goals
        rename_i hh
        go_ret
        refine ⟨ret_b ?_, rfl⟩
        rw [Hw.out] at *
        simp only [fitsB, if_true]
        rw [Bool.eq_iff_iff]
        simp
        split at * <;> omega

set_option maxHeartbeats 1000000 in
theorem codePoint_calls (n : Int) (w : World) (h0 : 0 ≤ n) (h1 : n < 18446744073709551616) : Calls Tryd.prog 81 #[.int .u64 n] w fun e w' => e = .returned (.bool (charOk n)) ∧ w = w' := by
  by_cases hn : n ≤ 1114111
  · go_enter Tryd.func81, Tryd.ntmps81
    go_wp2
    all_goals
      go_ret
      refine ⟨ret_b ?_, rfl⟩
      simp [charOk]
      omega
  · go_enter Tryd.func81, Tryd.ntmps81
    go_wp2
    go_ret
    refine ⟨ret_b ?_, rfl⟩
    simp [charOk]
    omega

set_option maxHeartbeats 1000000 in
theorem textual_calls (k : Int) (w : World) : Calls Tryd.prog 82 #[.int .i64 k] w fun e w' => e = .returned (.bool (textual k)) ∧ w = w' := by
  go_enter Tryd.func82, Tryd.ntmps82
  go_wp2
  all_goals
    simp only [beq_iff_eq, beq_eq_false_iff_ne, ne_eq] at *
    go_ret
    refine ⟨ret_b ?_, rfl⟩
    first | (subst_vars; rfl) | (simp only [textual]; apply Eq.symm; apply decide_eq_false; omega)
end Go.Proofs.YtekpofpgkokoiaaDoor.M
