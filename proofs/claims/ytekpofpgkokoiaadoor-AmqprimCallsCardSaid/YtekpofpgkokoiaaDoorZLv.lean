/- A part of this claim: what its theorem leans on. -/
import Derived.Test.YtekpofpgkokoiaaDoorZKp
import Derived.Test.YtekpofpgkokoiaaDoorZOpen
import Derived.Test.YtekpofpgkokoiaaDoorZQlaw16livesaD
set_option linter.unusedVariables false
set_option linter.unusedSimpArgs false
namespace Go.Proofs.YtekpofpgkokoiaaDoor.P
open Go.RowKit Go.Proofs.YtekpofpgkokoiaaDoor.M Go.Proofs.YtekpofpgkokoiaaDoor.Q Go.Proofs.YtekpofpgkokoiaaDoorW.PrintWords
theorem wf_parts {v : Vl} (h : WfV v) : (-9223372036854775808 ≤ v.kind ∧ v.kind ≤ 9223372036854775807) ∧ 0 ≤ v.n ∧ v.n < 18446744073709551616 ∧ ∀ y ∈ v.items, WfV y := by
  cases h with
  | mk _ hk h0 h1 hs hl hi => exact ⟨hk, h0, h1, hi⟩
theorem light_ok (v : Vl) : ∀ d, WfV v → LightP d v → cntV v ≤ 1000000 → Ok v := by
  induction v using Vl_ind with
  | h v ih =>
    intro d hw hl hc
    obtain ⟨h1, h2, h3, h4⟩ := wf_parts hw
    cases hl with
    | mk _ _ hd ht hi =>
      rw [cntV_eq] at hc
      have hlen := len_cnt v.items
      exact .mk v h1 h2 h3 (by omega) (by omega) fun y hy => ih y hy _ (h4 y hy) (hi y hy) (by have := cntL_mem hy; omega)
theorem lives16_true : polyglotlaw16_lives.f = some true := by kernel_rfl
theorem least_some {v : Vl} (h : Ok v) : amqprim_Least.f v.kind v.n v.text v.items = some (leastP v) := by
  unfold amqprim_Least.f
  rw [if_pos h.okN, vl_eta]
theorem put_some {v : Vl} (c : Int) (h : Ok v) : amqprim_Put.f c v.kind v.n v.text v.items = some (putP c v) := by
  unfold amqprim_Put.f
  rw [if_pos h.okN, vl_eta]
theorem check_some {v : Vl} (h : Ok v) : amqprim_Check.f v.kind v.n v.text v.items = some (checkP v) := by
  unfold amqprim_Check.f
  rw [if_pos h.okN, vl_eta]
theorem fits_some {v : Vl} (c : Int) (h : Ok v) : amqprim_Fits.f c v.kind v.n v.text v.items = some (fitsP c v) := by
  unfold amqprim_Fits.f
  rw [if_pos h.okN, vl_eta]
end Go.Proofs.YtekpofpgkokoiaaDoor.P
