/- What is gone through is within its kinds; the chapter's examples; amqprim's functions at such values. -/
import Derived.Test.YtekpofpgkokoiaaDoorKp
import Derived.Test.YtekpofpgkokoiaaDoorOpen
import Derived.Test.YtekpofpgkokoiaaDoorQlaw16livesaD
set_option linter.unusedVariables false
set_option linter.unusedSimpArgs false
namespace Go.Proofs.YtekpofpgkokoiaaDoor.P
open Go.RowKit Go.Proofs.YtekpofpgkokoiaaDoor.M Go.Proofs.YtekpofpgkokoiaaDoor.Q Go.Proofs.YtekpofpgkokoiaaDoorW.PrintWords

theorem wf_parts {v : Vl} (h : WfV v) : (-9223372036854775808 ≤ v.kind ∧ v.kind ≤ 9223372036854775807) ∧ 0 ≤ v.n ∧ v.n < 18446744073709551616 ∧ ∀ y ∈ v.items, WfV y := by
  cases h with
  | mk _ hk h0 h1 hs hl hi => exact ⟨hk, h0, h1, hi⟩
/-- What is gone through is within the kinds. -/
theorem light_ok (v : Vl) : ∀ d, WfV v → LightP d v → cntV v ≤ 1000000 → Ok v := by
  induction v using Vl_ind with
  | h v ih =>
    intro d hw hl hc
    obtain ⟨h1, h2, h3, h4⟩ := wf_parts hw
    cases hl with
    | mk _ _ hd ht hi =>
      rw [cntV_eq] at hc
      have hlen := len_cnt v.items
      exact .mk v h1 h2 h3 (by omega) (by omega) fun y hy => ih y hy _ (h4 y hy) (hi y hy) (by have := cntL_mem hy; omega)
theorem lives16_true : polyglotlaw16_lives.f = some true := by kernel_rfl
theorem least_some {v : Vl} (h : Ok v) : amqprim_Least.f v.kind v.n v.text v.items = some (leastP v) := by
  unfold amqprim_Least.f
  rw [if_pos h.okN, vl_eta]
theorem put_some {v : Vl} (c : Int) (h : Ok v) : amqprim_Put.f c v.kind v.n v.text v.items = some (putP c v) := by
  unfold amqprim_Put.f
  rw [if_pos h.okN, vl_eta]
theorem check_some {v : Vl} (h : Ok v) : amqprim_Check.f v.kind v.n v.text v.items = some (checkP v) := by
  unfold amqprim_Check.f
  rw [if_pos h.okN, vl_eta]
theorem fits_some {v : Vl} (c : Int) (h : Ok v) : amqprim_Fits.f c v.kind v.n v.text v.items = some (fitsP c v) := by
  unfold amqprim_Fits.f
  rw [if_pos h.okN, vl_eta]
theorem least_ok {v : Vl} (h : (leastP v).2 = 0) : fitsP (leastP v).1 v = true ∧ checkP v = 0 := by
  unfold leastP at *
  by_cases hc : checkP v = 0
  · rw [if_pos hc] at *
    split at h
    · rename_i c hf
      have := List.find?_some hf
      exact ⟨this, hc⟩
    · cases h
  · rw [if_neg hc] at h
    exact absurd h hc
theorem least_err {v : Vl} (h : ¬ (leastP v).2 = 0) : (leastP v).1 = 0 := by
  unfold leastP at *
  by_cases hc : checkP v = 0
  · rw [if_pos hc] at *
    split at h
    · exact absurd rfl h
    · rfl
  · rw [if_neg hc]
theorem put_fits {c : Int} {v : Vl} (h : fitsP c v = true) : (putP c v).2 = 0 := by
  have hc := (fits_parts h).2.2.1
  unfold putP
  rw [if_pos hc, if_pos h]
/-- No constructor needs more than 16 bytes beside the text. -/
theorem put_size {c : Int} {v : Vl} (h : (putP c v).2 = 0) (ht : v.text.size ≤ 140737488350000) : (putP c v).1.size ≤ v.text.size + 16 := by
  have hB := (fits_parts (put_ok h).2).1
  have hw := tab_width _ (ofC_mem hB)
  rw [put_val h]
  split
  · rw [ByteArray.size_append, beB_size]; omega
  · split
    · omega
    · rw [beB_size]; omega
theorem light_text {d : Int} {v : Vl} (h : LightP d v) : v.text.size ≤ 400 := by cases h; assumption
end Go.Proofs.YtekpofpgkokoiaaDoor.P
