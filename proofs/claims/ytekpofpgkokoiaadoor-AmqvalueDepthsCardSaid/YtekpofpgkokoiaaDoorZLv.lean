/- A part of this claim: what its theorem leans on. -/
import Derived.Test.YtekpofpgkokoiaaDoorZKp
import Derived.Test.YtekpofpgkokoiaaDoorZOpen
import Derived.Test.YtekpofpgkokoiaaDoorZQ0
import Derived.Test.YtekpofpgkokoiaaDoorZQpolyglotkitaD
set_option linter.unusedVariables false
set_option linter.unusedSimpArgs false
namespace Go.Proofs.YtekpofpgkokoiaaDoor.P
open Go.RowKit Go.Proofs.YtekpofpgkokoiaaDoor.M Go.Proofs.YtekpofpgkokoiaaDoor.Q Go.Proofs.YtekpofpgkokoiaaDoorW.PrintWords
theorem wf_parts {v : Vl} (h : WfV v) : (-9223372036854775808 ≤ v.kind ∧ v.kind ≤ 9223372036854775807) ∧ 0 ≤ v.n ∧ v.n < 18446744073709551616 ∧ ∀ y ∈ v.items, WfV y := by
  cases h with
  | mk _ hk h0 h1 hs hl hi => exact ⟨hk, h0, h1, hi⟩
theorem light_ok (v : Vl) : ∀ d, WfV v → LightP d v → cntV v ≤ 1000000 → Ok v := by
  induction v using Vl_ind with
  | h v ih =>
    intro d hw hl hc
    obtain ⟨h1, h2, h3, h4⟩ := wf_parts hw
    cases hl with
    | mk _ _ hd ht hi =>
      rw [cntV_eq] at hc
      have hlen := len_cnt v.items
      exact .mk v h1 h2 h3 (by omega) (by omega) fun y hy => ih y hy _ (h4 y hy) (hi y hy) (by have := cntL_mem hy; omega)
end Go.Proofs.YtekpofpgkokoiaaDoor.P
