/- Walks of amqprim.text and amqprim.Check (utf8.ValidString by its contract). -/
import Derived.Test.YtekpofpgkokoiaaDoorA
import Derived.Test.YtekpofpgkokoiaaDoorShelf
set_option linter.unusedVariables false
set_option linter.unusedSimpArgs false
namespace Go.Proofs.YtekpofpgkokoiaaDoor.M
open Go.RowKit Go.Proofs.YtekpofpgkokoiaaDoorW.PrintWords

theorem ValidString_calls (s : ByteArray) (w : World) (hs : s.size ≤ 9223372036854775807) (hT : Tb w) : Calls Tryd.prog 131 #[.string s] w fun e w' => e = .returned (.bool (Lib.validD s.data.toList)) ∧ Below w.heap.size w w' :=
  Any.utf8_ValidString Tryd.validL s w hs hT

theorem size_data (s : ByteArray) : s.data.toList.length = s.size := rfl
theorem get_data (s : ByteArray) (j : Nat) (h : j < s.size) : s.data.toList[j]'h = s[j] := rfl
theorem ascii_of (s : ByteArray) (h : ∀ j, (hj : j < s.size) → (s[j].toNat : Int) < 128) : ascii s = true := by
  unfold ascii
  rw [List.all_eq_true]
  intro c hc
  obtain ⟨j, hj, rfl⟩ := List.mem_iff_getElem.1 hc
  have h1 := h j hj
  rw [← get_data s j hj] at h1
  exact decide_eq_true (by omega)
theorem not_ascii_of (s : ByteArray) (j : Nat) (hj : j < s.size) (h : 128 ≤ (s[j].toNat : Int)) : ascii s = false := by
  unfold ascii
  rw [List.all_eq_false]
  refine ⟨s[j], ?_, ?_⟩
  · rw [← get_data s j hj]
    exact List.getElem_mem _
  · rw [decide_eq_true_iff]
    omega

set_option maxRecDepth 100000 in
set_option maxHeartbeats 1000000 in
theorem text_calls (k n : Int) (s : ByteArray) (A : Option Addr) (c l : Nat) (w : World) (hs : s.size ≤ 9223372036854775807) (hT : Tb w) : Calls Tryd.prog 83 #[.agg #[.int .i64 k, .int .u64 n, .string s, .slice A l c]] w fun e w' => e = .returned (.int .i64 (textE k s)) ∧ Below w.heap.size w w' := by
  by_cases h20 : k = 20
  · subst h20
    go_enter Tryd.func83, Tryd.ntmps83
    go_wp2_with (go_at_call 131; refine (ValidString_calls _ _ hs (hT.alloc _)).mono ?_; rintro e w1 ⟨rfl, hb⟩)
    all_goals
      rename_i hh
      simp only [Bool.not_eq_eq_eq_not, Bool.not_true, Bool.not_false] at hh
      go_ret
      exact ⟨ret_i (by simp [textE, hh]), below_step (below_new _ _) hb⟩
  · by_cases h21 : k = 21
    · subst h21
      go_enter Tryd.func83, Tryd.ntmps83
      go_wp2
      go_loop [17] (fun i => ∃ j : Nat, j ≤ s.size ∧ i = .int .i64 j ∧ ∀ q, (hq : q < s.size) → q < j → (s[q].toNat : Int) < 128) (fun i => s.size - (intOf i).toNat)
      case atStart => exact ⟨0, Nat.zero_le _, rfl, fun q hq h => absurd h (by omega)⟩
      case round =>
        obtain ⟨j, hj, rfl, hall⟩ := hrel
        have Hall := Lib.hid hall
        clear hall
        by_cases hlt : j < s.size
        · go_wp2
          · go_ret
            exact ⟨ret_i (by simp [textE, not_ascii_of s j hlt (by assumption)]), below_new _ _⟩
          · go_round
            case rel =>
              have hx : (s[j].toNat : Int) < 128 := by assumption
              exact ⟨j + 1, by omega, by go_num, fun q hq h => if e : q = j then by subst e; exact hx else Hall.out q hq (by omega)⟩
            case measure => simp [intOf]; omega
        · go_wp2
          go_ret
          exact ⟨ret_i (by simp [textE, ascii_of s (fun q hq => Hall.out q hq (by omega))]), below_new _ _⟩
    · go_enter Tryd.func83, Tryd.ntmps83
      go_wp2
      all_goals
        go_ret
        exact ⟨ret_i (by simp [textE, *]), below_new _ _⟩

theorem check_iff {k n : Int} {s : ByteArray} {l : List Vl} : checkP ⟨k, n, s, l⟩ = if k < 1 ∨ 21 < k then 8
  else if fitsB n (bitsN k) (bitsS k) = false ∨ (k = 16 ∧ charOk n = false) ∨ l.length ≠ 0 then 2
  else if textual k = false then (if s.size = 0 then 0 else 2)
  else if (k = 15 ∨ k = 18) ∧ s.size ≠ 16 then 2
  else if 1048576 < s.size then 4
  else textE k s := rfl

set_option maxRecDepth 100000 in
set_option maxHeartbeats 2000000 in
theorem Check_calls (k n : Int) (s : ByteArray) (items : List Vl) (A : Option Addr) (c : Nat) (w : World) (h0 : 0 ≤ n) (h1 : n < 18446744073709551616) (hs : s.size ≤ 9223372036854775807) (hT : Tb w) (hl : items.length ≤ 9223372036854775807) :
    Calls Tryd.prog 21 #[.agg #[.int .i64 k, .int .u64 n, .string s, .slice A items.length c]] w fun e w' => e = .returned (.int .i64 (checkP ⟨k, n, s, items⟩)) ∧ Below w.heap.size w w' := by
  go_enter Tryd.func21, Tryd.ntmps21
  go_wp2_with (first | (go_at_call 79; refine (bits_calls _ _).mono ?_; rintro e w1 ⟨rfl, rfl⟩) | (go_at_call 80; refine (fitsBits_calls _ _ _ _ h0 h1 (okB_bits _)).mono ?_; rintro e w1 ⟨rfl, rfl⟩) | (go_at_call 81; refine (codePoint_calls _ _ h0 h1).mono ?_; rintro e w1 ⟨rfl, rfl⟩) | (go_at_call 82; refine (textual_calls _ _).mono ?_; rintro e w1 ⟨rfl, rfl⟩) | (go_at_call 83; refine (text_calls _ _ _ _ _ _ _ hs (hT.alloc _)).mono ?_; rintro e w1 ⟨rfl, hb⟩))
  all_goals
    go_ret
    refine ⟨ret_i ?_, by first | exact below_new _ _ | exact below_step (below_new _ _) hb⟩
    rw [check_iff]
    (try simp only [empty_toList] at *) <;> grind
end Go.Proofs.YtekpofpgkokoiaaDoor.M
