/- A part of this claim: what its theorem leans on. -/
import Derived.Test.YtekpofpgkokoiaaDoorZRf16
import Derived.Test.YtekpofpgkokoiaaDoorZKo
import Derived.Test.YtekpofpgkokoiaaDoorZRo
import Derived.Test.YtekpofpgkokoiaaDoorZQlaw16AmqprimCallsaD
set_option linter.unusedVariables false
set_option linter.unusedSimpArgs false
namespace Go.Proofs.YtekpofpgkokoiaaDoor.P
open Go.RowKit Go.Proofs.YtekpofpgkokoiaaDoor.M Go.Proofs.YtekpofpgkokoiaaDoor.Q Go.Proofs.YtekpofpgkokoiaaDoorW.PrintWords
theorem outR_ok (r : Rd) (h : OkR r) : ∃ u : Vl, Ok u ∧ ∃ a b, outR r = (u.kind, u.n, u.text, u.items, a, b) := by
  cases r with
  | ok q =>
    obtain ⟨v, n⟩ := q
    exact ⟨v, h, _, _, rfl⟩
  | error e => exact ⟨zV, .mk _ ⟨by decide, by decide⟩ (by decide) (by decide) (by decide) (by decide) (fun y hy => by cases hy), _, _, rfl⟩
theorem calls16_pure (code : Int) (x0 : -9223372036854775808 ≤ code) (x1 : code ≤ 9223372036854775807) (v : Vl) (hw : WfV v) (kind : Int) (k0 : -9223372036854775808 ≤ kind) (k1 : kind ≤ 9223372036854775807) (s : ByteArray) (hs : s.size ≤ 140737488351232) :
    Fin (fun k => polyglotlaw16_AmqprimCalls.f k code v.kind v.n v.text v.items kind s) true := by
  refine Fin.eq (fun k => by rw [polyglotlaw16_AmqprimCalls.f]) ?_
  refine Fin.bc lives16_true (Fin.ifp rfl ?_)
  have far : Fin (fun k => polyglotlaw16_AmqprimCalls.j0 k code kind s true v.kind v.n v.text v.items) true := Fin.step (g' := fun _ => some true) (fun k => by simp only [polyglotlaw16_AmqprimCalls.j0, if_true]) (Fin.const _)
  obtain ⟨b, hb, hl⟩ := light_fin v
  refine Fin.bind hb ?_
  cases b with
  | false => exact Fin.ifn (by simp) far
  | true =>
    obtain ⟨hl, hc⟩ := hl rfl
    have hv := light_ok v 6 hw hl (by omega)
    have ho := hv.okN
    refine Fin.ifp rfl ?_
    by_cases h600 : (s.size : Int) > 600
    · rw [decide_eq_true h600]; exact far
    rw [decide_eq_false h600]
    refine Fin.step (fun k => by simp only [polyglotlaw16_AmqprimCalls.j0, Bool.false_eq_true, if_false]; rfl) ?_
    refine Fin.bc (a := ((ofC code).code, (ofC code).kind, (ofC code).width, (ofC code).sized, (ofC code).items, ofB code)) rfl ?_
    refine Fin.bind (rof_fin code) (Fin.bind (own_fin v hv) (Fin.bc (least_some hv) ?_))
    have hrl := rleast_fin v.kind v.n v.text v.items ho
    rw [vl_eta] at hrl
    have hrp := rput_fin code v.kind v.n v.text v.items ho
    rw [vl_eta] at hrp
    have hrc := rcheck_fin v.kind v.n v.text v.items ho
    rw [vl_eta] at hrc
    have hrf := rfits_fin code v.kind v.n v.text v.items ho
    rw [vl_eta] at hrf
    refine Fin.bind hrl (Fin.bind (own_fin v hv) (Fin.bc (put_some code hv) (Fin.bind hrp (Fin.bind (get_fin code s hs) (Fin.bind (rget_fin code s hs) ?_)))))
    obtain ⟨u, hu, a, b, hq⟩ := outR_ok (getE code s.data.toList) (getE_ok code _ (by rw [len_list]; omega))
    rw [hq]
    refine Fin.ifp (by simp) (Fin.ifp (by simp) (Fin.ifp rfl (Fin.ifp rfl (Fin.ifp rfl (Fin.ifp rfl ?_)))))
    have hsame := same_fin u hu u
    rw [same_self] at hsame
    refine Fin.bind hsame (Fin.ifp rfl (Fin.ifp rfl (Fin.ifp rfl ?_)))
    refine Fin.bc (a := codesL kind) rfl (Fin.bind (rcodes_fin kind) (Fin.bind (same_int_fin (codesL kind) (by have := codesL_le kind; omega)) (Fin.ifp rfl ?_)))
    refine Fin.bc (check_some hv) (Fin.bind hrc (Fin.ifp rfl (Fin.bc (fits_some code hv) (Fin.bind hrf (Fin.of fun _ => by simp)))))
end Go.Proofs.YtekpofpgkokoiaaDoor.P
