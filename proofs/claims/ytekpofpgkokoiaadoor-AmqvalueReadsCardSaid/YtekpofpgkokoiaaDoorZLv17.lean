/- A part of this claim: what its theorem leans on. -/
import Derived.Test.YtekpofpgkokoiaaDoorZKa
import Derived.Test.YtekpofpgkokoiaaDoorZKp
import Derived.Test.YtekpofpgkokoiaaDoorZH1
import Derived.ProofKit
import Derived.Lib.SmallJoins
import Derived.Deep.Slices
import Derived.ChangeOld
import Derived.Below
import Derived.Test.YtekpofpgkokoiaaDoorZQ0
import Derived.Test.YtekpofpgkokoiaaDoorZQpolyglotkitaD
import Derived.Test.YtekpofpgkokoiaaDoorZRo
import Derived.Test.YtekpofpgkokoiaaDoorZVf
import Derived.Test.YtekpofpgkokoiaaDoorZQlaw17livesaD
set_option linter.unusedVariables false
set_option linter.unusedSimpArgs false
namespace Go.Proofs.YtekpofpgkokoiaaDoor.P
open Go.RowKit Go.Proofs.YtekpofpgkokoiaaDoor.M Go.Proofs.YtekpofpgkokoiaaDoor.Q Go.Proofs.YtekpofpgkokoiaaDoorW.PrintWords
theorem lives17_true : Fin (fun k => polyglotlaw17_lives.f k) true := Fin.mono 12 (by kernel_rfl) polyglotlaw17_lives.mono
theorem vcheck_some {v : Vl} (m : Int) (h : Ok v) : amqvalue_Check.f v.kind v.n v.text v.items m = some (chkM m v) := by
  unfold amqvalue_Check.f
  rw [if_pos ((okVb_iff _).2 (by rw [vl_eta]; exact h)), vl_eta]
theorem chkM_nat {m : Nat} (hm : m ≤ 32) (v : Vl) : chkM (m : Int) v = chkV m v := by
  unfold chkM
  rw [if_pos (by omega)]
  rfl
theorem rdM_nat {m : Nat} (hm : m ≤ 32) (s : Bs) : rdM (m : Int) s = rdE m s := by
  unfold rdM
  rw [if_pos (by omega)]
  rfl
theorem vread_some {s : ByteArray} (m : Int) (h : s.size ≤ 140737488351232) : amqvalue_Read.f s m = some (outR (rdM m s.data.toList)) := by
  unfold amqvalue_Read.f
  rw [if_pos h]
theorem Ok.zero : Ok zV := .mk _ ⟨by decide, by decide⟩ (by decide) (by decide) (by decide) (by decide) fun y hy => by cases hy
end Go.Proofs.YtekpofpgkokoiaaDoor.P
