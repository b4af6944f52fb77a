/- The plain law of AmqprimShort: truncated anywhere, data are too short. -/
import Derived.Test.YtekpofpgkokoiaaDoorGp
import Derived.Test.YtekpofpgkokoiaaDoorLv
import Derived.Test.YtekpofpgkokoiaaDoorQlaw16AmqprimShortaD
set_option linter.unusedVariables false
set_option linter.unusedSimpArgs false
namespace Go.Proofs.YtekpofpgkokoiaaDoor.P
open Go.RowKit Go.Proofs.YtekpofpgkokoiaaDoor.M Go.Proofs.YtekpofpgkokoiaaDoor.Q Go.Proofs.YtekpofpgkokoiaaDoorW.PrintWords

theorem short_pure (v : Vl) (hw : WfV v) (cut : Int) (h0 : -9223372036854775808 ≤ cut) (h1 : cut ≤ 9223372036854775807) : Fin (fun k => polyglotlaw16_AmqprimShort.f k v.kind v.n v.text v.items cut) true := by
  refine Fin.eq (fun k => by rw [polyglotlaw16_AmqprimShort.f]) ?_
  refine Fin.bc lives16_true (Fin.ifp rfl ?_)
  obtain ⟨b, hb, hl⟩ := light_fin v
  refine Fin.bind hb ?_
  cases b with
  | false => exact Fin.ifn (by simp) (Fin.const _)
  | true =>
    obtain ⟨hl, hc⟩ := hl rfl
    have hv := light_ok v 6 hw hl (by omega)
    have ht := light_text hl
    refine Fin.ifp rfl (Fin.bc (least_some hv) ?_)
    by_cases he : (leastP v).2 = 0
    · have hf := (least_ok he).1
      have hp := put_fits hf
      refine Fin.ifp he (Fin.bc (put_some _ hv) (Fin.ifp hp ?_))
      have hsz := put_size hp (by omega)
      by_cases hz : ((putP (leastP v).1 v).1.size : Int) = 0
      · exact Fin.ifp hz (Fin.const _)
      · refine Fin.ifn hz (Fin.bc (pick_some _ _ h0 h1 (by omega) (by omega)) ?_)
        have hge := pickP_ge cut ((putP (leastP v).1 v).1.size : Int)
        have hlt := pickP_lt cut ((putP (leastP v).1 v).1.size : Int) (by omega)
        refine Fin.ifp hge (Fin.ifp (by omega) ?_)
        refine Fin.bind (get_fin _ _ (by rw [ext_size' _ _ _ (by omega)]; omega)) ?_
        rw [ext_list, List.drop_zero]
        have := get_short v (leastP v).1 hp hv.n0 hv.n1 (pickP cut ((putP (leastP v).1 v).1.size : Int)).toNat (by rw [putL, len_list]; omega)
        rw [putL] at this
        rw [this]
        exact Fin.ifp rfl (Fin.const _)
    · refine Fin.ifn he ?_
      rw [least_err he]
      exact Fin.const _
end Go.Proofs.YtekpofpgkokoiaaDoor.P
