/- A part of this claim: what its theorem leans on. -/
import Derived.Test.YtekpofpgkokoiaaDoorZKa
import Derived.Test.YtekpofpgkokoiaaDoorZLv
import Derived.Test.YtekpofpgkokoiaaDoorZRo
import Derived.Test.YtekpofpgkokoiaaDoorZVf
import Derived.Test.YtekpofpgkokoiaaDoorZQlaw17livesaD
set_option linter.unusedVariables false
set_option linter.unusedSimpArgs false
namespace Go.Proofs.YtekpofpgkokoiaaDoor.P
open Go.RowKit Go.Proofs.YtekpofpgkokoiaaDoor.M Go.Proofs.YtekpofpgkokoiaaDoor.Q Go.Proofs.YtekpofpgkokoiaaDoorW.PrintWords
theorem lives17_true : Fin (fun k => polyglotlaw17_lives.f k) true := Fin.mono 12 (by kernel_rfl) polyglotlaw17_lives.mono
theorem vcheck_some {v : Vl} (m : Int) (h : Ok v) : amqvalue_Check.f v.kind v.n v.text v.items m = some (chkM m v) := by
  unfold amqvalue_Check.f
  rw [if_pos ((okVb_iff _).2 (by rw [vl_eta]; exact h)), vl_eta]
theorem chkM_nat {m : Nat} (hm : m ≤ 32) (v : Vl) : chkM (m : Int) v = chkV m v := by
  unfold chkM
  rw [if_pos (by omega)]
  rfl
theorem Ok.zero : Ok zV := .mk _ ⟨by decide, by decide⟩ (by decide) (by decide) (by decide) (by decide) fun y hy => by cases hy
end Go.Proofs.YtekpofpgkokoiaaDoor.P
