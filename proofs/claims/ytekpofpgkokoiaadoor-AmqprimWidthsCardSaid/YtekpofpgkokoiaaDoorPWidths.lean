/- The plain law of AmqprimWidths: what fits a narrow constructor fits a wide one, data are one-to-one, and of the size that is told. -/
import Derived.Test.YtekpofpgkokoiaaDoorKs
import Derived.Test.YtekpofpgkokoiaaDoorLv
import Derived.Test.YtekpofpgkokoiaaDoorQlaw16AmqprimWidthsaD
set_option linter.unusedVariables false
set_option linter.unusedSimpArgs false
namespace Go.Proofs.YtekpofpgkokoiaaDoor.P
open Go.RowKit Go.Proofs.YtekpofpgkokoiaaDoor.M Go.Proofs.YtekpofpgkokoiaaDoor.Q Go.Proofs.YtekpofpgkokoiaaDoorW.PrintWords

theorem beq_true {a b : List UInt8} (h : a = b) : some (a == b) = some true := by rw [h]; simp
theorem widths_j3 (v : Vl) (b : Int) (hb : b ∈ codesL v.kind) (ht : v.text.size ≤ 400) (c0 c1 : Int) (c4 : Bool) :
    Fin (fun k => polyglotlaw16_AmqprimWidths.j3 k (putP b v).1 (putP b v).2 false v.kind v.n v.text v.items c0 c1 (ofC b).width (ofC b).sized c4) true := by
  refine Fin.step (g' := fun _ => some true) (fun k => ?_) (Fin.const _)
  simp only [polyglotlaw16_AmqprimWidths.j3, Bool.false_eq_true, if_false]
  by_cases he : (putP b v).2 = 0
  · obtain ⟨p1, p2⟩ := put_len v b hb he
    rw [if_pos he]
    cases hs : (ofC b).sized with
    | true =>
      obtain ⟨q1, q2, q3, q4⟩ := p1 hs
      rw [if_pos rfl, w64 _ (by omega) (by omega), if_pos q1, if_pos q2, if_pos (by omega), q4]
      exact beq_true rfl
    | false =>
      rw [if_neg (by simp), p2 hs]
      simp
  · rw [if_neg he, put_fail he]
    exact beq_true (toL _)
theorem widths_j2 (v u : Vl) (hv : Ok v) (hu : Ok u) (ht : v.text.size ≤ 400) (j : Nat) (hj : j < (codesL v.kind).length) (c0 c1 : Int) (c4 : Bool) :
    Fin (fun k => polyglotlaw16_AmqprimWidths.j2 k (j : Int) (codesL v.kind) false v.kind v.n v.text v.items u.kind u.n u.text u.items c0 c1 (ofC (codesL v.kind)[j]).width (ofC (codesL v.kind)[j]).sized c4) true := by
  have hm := List.getElem_mem hj
  refine Fin.step (fun k => by simp only [polyglotlaw16_AmqprimWidths.j2, Bool.false_eq_true, if_false]; rfl) ?_
  refine Fin.ifp (by omega) (Fin.ifp (by omega) ?_)
  rw [rd_at hj]
  refine Fin.bc (put_some _ hv) (Fin.bc (put_some _ hu) ?_)
  have h3 := widths_j3 v _ hm ht c0 c1 c4
  by_cases h1 : (putP (codesL v.kind)[j] v).2 = 0
  · refine Fin.ifp h1 ?_
    by_cases h2 : (putP (codesL v.kind)[j] u).2 = 0
    · refine Fin.ifp h2 (Fin.bind (same_fin v hv u) ?_)
      have hi := put_inj v u _ hm h1 h2 ⟨hv.n0, hv.n1⟩ ⟨hu.n0, hu.n1⟩
      have e : (((putP (codesL v.kind)[j] v).1.toList == (putP (codesL v.kind)[j] u).1.toList) != sameV v u) = false := by
        have hl : (putP (codesL v.kind)[j] v).1.toList = (putP (codesL v.kind)[j] u).1.toList ↔ (putP (codesL v.kind)[j] v).1 = (putP (codesL v.kind)[j] u).1 := ⟨fun h => bytes_eq (by rwa [toL, toL] at h), fun h => by rw [h]⟩
        by_cases hvu : v = u
        · rw [(same_iff v u).2 hvu, beq_iff_eq.2 (hl.2 (hi.2 hvu))]
          rfl
        · rw [beq_eq_false_iff_ne.2 (fun h => hvu (hi.1 (hl.1 h))), show sameV v u = false from by
            cases h : sameV v u with
            | false => rfl
            | true => exact absurd ((same_iff v u).1 h) hvu]
          rfl
      rw [e]
      exact h3
    · exact Fin.ifn h2 h3
  · exact Fin.ifn h1 h3
theorem widths_pure (v : Vl) (hw : WfV v) (u : Vl) (hwu : WfV u) (i : Int) (i0 : -9223372036854775808 ≤ i) (i1 : i ≤ 9223372036854775807) (k : Int) (k0 : -9223372036854775808 ≤ k) (k1 : k ≤ 9223372036854775807) :
    Fin (fun q => polyglotlaw16_AmqprimWidths.f q v.kind v.n v.text v.items u.kind u.n u.text u.items i k) true := by
  have jT : ∀ a b c d e f g h, Fin (fun q => polyglotlaw16_AmqprimWidths.j0 q i k true a b c d e f g h) true := fun a b c d e f g h => Fin.step (g' := fun _ => some true) (fun q => by simp only [polyglotlaw16_AmqprimWidths.j0, if_true]) (Fin.const _)
  refine Fin.eq (fun q => by rw [polyglotlaw16_AmqprimWidths.f]) ?_
  refine Fin.bc lives16_true (Fin.ifp rfl ?_)
  obtain ⟨b, hb, hl⟩ := light_fin v
  refine Fin.bind hb ?_
  cases b with
  | false => exact Fin.ifn (by simp) (jT _ _ _ _ _ _ _ _)
  | true =>
    refine Fin.ifp rfl ?_
    obtain ⟨b', hb', hl'⟩ := light_fin u
    refine Fin.bind hb' ?_
    cases b' with
    | false => exact jT _ _ _ _ _ _ _ _
    | true =>
      obtain ⟨l1, l2⟩ := hl rfl
      obtain ⟨m1, m2⟩ := hl' rfl
      have hv := light_ok v 6 hw l1 (by omega)
      have hu := light_ok u 6 hwu m1 (by omega)
      have ht := light_text l1
      refine Fin.step (fun q => by simp only [polyglotlaw16_AmqprimWidths.j0, Bool.not_true, Bool.false_eq_true, if_false]; rfl) ?_
      refine Fin.bc (a := codesL v.kind) rfl ?_
      have j1T : Fin (fun q => polyglotlaw16_AmqprimWidths.j1 q i k (codesL v.kind) true v.kind v.n v.text v.items u.kind u.n u.text u.items) true := Fin.step (g' := fun _ => some true) (fun q => by simp only [polyglotlaw16_AmqprimWidths.j1, if_true]) (Fin.const _)
      by_cases hz : ((codesL v.kind).length : Int) = 0
      · exact Fin.ifp hz j1T
      · refine Fin.ifn hz (Fin.bc (check_some hv) ?_)
        by_cases hc : checkP v = 0
        · rw [hc]
          refine Fin.step (fun q => by simp only [polyglotlaw16_AmqprimWidths.j1, bne_self_eq_false, Bool.false_eq_true, if_false]; rfl) ?_
          have hlen := codesL_le v.kind
          obtain ⟨a, ha⟩ := Int.eq_ofNat_of_zero_le (pickP_ge i (codesL v.kind).length)
          obtain ⟨c, hcc⟩ := Int.eq_ofNat_of_zero_le (pickP_ge k (codesL v.kind).length)
          have ha1 := pickP_lt i (codesL v.kind).length (by omega)
          have hc1 := pickP_lt k (codesL v.kind).length (by omega)
          have hal : a < (codesL v.kind).length := by omega
          have hcl : c < (codesL v.kind).length := by omega
          refine Fin.bc (pick_some _ _ i0 i1 (by omega) (by omega)) (Fin.bc (pick_some _ _ k0 k1 (by omega) (by omega)) ?_)
          rw [ha, hcc]
          refine Fin.ifp (by omega) (Fin.ifp (by omega) (Fin.bc (a := _) rfl (Fin.ifp (by omega) (Fin.ifp (by omega) (Fin.bc (a := _) rfl ?_)))))
          rw [rd_at hal, rd_at hcl]
          have h2 := widths_j2 v u hv hu ht c hcl (ofC (codesL v.kind)[c]).code (ofC (codesL v.kind)[c]).kind (ofC (codesL v.kind)[c]).items
          by_cases w1 : (ofC (codesL v.kind)[a]).width > 0
          · refine Fin.ifp w1 ?_
            by_cases w2 : (ofC (codesL v.kind)[a]).width ≤ (ofC (codesL v.kind)[c]).width
            · refine Fin.ifp w2 (Fin.bc (fits_some _ hv) ?_)
              by_cases w3 : fitsP (codesL v.kind)[a] v = true
              · refine Fin.ifp w3 (Fin.bc (fits_some _ hv) ?_)
                rw [fits_wide v _ _ (List.getElem_mem hal) (List.getElem_mem hcl) w1 w2 w3]
                exact h2
              · exact Fin.ifn w3 h2
            · exact Fin.ifn w2 h2
          · exact Fin.ifn w1 h2
        · rw [show (checkP v != 0) = true by simpa using hc]
          exact j1T
end Go.Proofs.YtekpofpgkokoiaaDoor.P
