/- A part of this claim: what its theorem leans on. -/
import Derived.Test.YtekpofpgkokoiaaDoorZLv17
import Derived.Test.YtekpofpgkokoiaaDoorZQlaw17AmqvalueReadsaD
set_option linter.unusedVariables false
set_option linter.unusedSimpArgs false
namespace Go.Proofs.YtekpofpgkokoiaaDoor.P
open Go.RowKit Go.Proofs.YtekpofpgkokoiaaDoor.M Go.Proofs.YtekpofpgkokoiaaDoor.Q Go.Proofs.YtekpofpgkokoiaaDoorW.PrintWords
theorem reads_j2 (s : ByteArray) (hs : s.size ≤ 200) (m : Nat) (hm : m ≤ 32) (v : Vl) (n : Nat) (h : rdE m s.data.toList = .ok (v, n)) (cut : Int) (c0 : -9223372036854775808 ≤ cut) (c1 : cut ≤ 9223372036854775807) :
    Fin (fun k => polyglotlaw17_AmqvalueReads.j2 k s (m : Int) cut (n : Int) false) true := by
  obtain ⟨_, n1, n2⟩ := rdE_valid h
  rw [len_list] at n2
  refine Fin.step (fun k => by simp only [polyglotlaw17_AmqvalueReads.j2, Bool.false_eq_true, if_false]; rfl) ?_
  refine Fin.bc (pick_some _ _ c0 c1 (by omega) (by omega)) ?_
  have hge := pickP_ge cut (n : Int)
  have hlt := pickP_lt cut (n : Int) (by omega)
  obtain ⟨j, hj⟩ := Int.eq_ofNat_of_zero_le hge
  rw [hj] at hlt ⊢
  refine Fin.ifp (by omega) (Fin.ifp (by omega) ?_)
  refine Fin.bc (vread_some _ (by rw [ext_size' _ _ _ (by omega)]; omega)) ?_
  rw [rdM_nat hm, ext_list, List.drop_zero, Int.toNat_natCast, rdE_short m _ _ _ h j (by omega)]
  exact Fin.const _
theorem reads_j1 (s more : ByteArray) (hs : s.size ≤ 200) (ht : more.size ≤ 200) (m : Nat) (hm : m < 32) (v : Vl) (n : Nat) (h : rdE m s.data.toList = .ok (v, n)) (cut : Int) (c0 : -9223372036854775808 ≤ cut) (c1 : cut ≤ 9223372036854775807) :
    Fin (fun k => polyglotlaw17_AmqvalueReads.j1 k s more (m : Int) cut (n : Int) false v.kind v.n v.text v.items) true := by
  obtain ⟨_, n1, n2⟩ := rdE_valid h
  rw [len_list] at n2
  have hok : Ok v := by have := rdE_okR m s.data.toList (by rw [len_list]; omega); rw [h] at this; exact this
  have hsz : (s.extract 0 ((n : Int)).toNat).size = n := by rw [ext_size' _ _ _ (by omega)]; omega
  refine Fin.step (fun k => by simp only [polyglotlaw17_AmqvalueReads.j1, Bool.false_eq_true, if_false]; rfl) ?_
  refine Fin.ifp (by omega) (Fin.ifp (by omega) (Fin.ifp (by rw [hsz]; omega) ?_))
  refine Fin.bc (vread_some _ (by rw [ByteArray.size_append, hsz]; omega)) ?_
  rw [w64s m (by omega), rdM_nat (by omega), app_list, ext_list, List.drop_zero, Int.toNat_natCast, (rdE_local m (m + 1) (by omega) _ _ _ h).2]
  refine Fin.ifp rfl (Fin.ifp rfl ?_)
  refine Fin.bind (vsame_fin v hok v) ?_
  rw [same_self]
  exact reads_j2 s hs m (by omega) v n h cut c0 c1
theorem reads_pure (s : ByteArray) (hs : s.size ≤ 140737488351232) (more : ByteArray) (ht : more.size ≤ 140737488351232) (most : Int) (m0 : -9223372036854775808 ≤ most) (m1 : most ≤ 9223372036854775807) (cut : Int) (c0 : -9223372036854775808 ≤ cut) (c1 : cut ≤ 9223372036854775807) :
    Fin (fun k => polyglotlaw17_AmqvalueReads.f k s more most cut) true := by
  refine Fin.eq (fun k => by rw [polyglotlaw17_AmqvalueReads.f]) ?_
  refine Fin.bind lives17_true (Fin.ifp rfl ?_)
  have far : Fin (fun k => polyglotlaw17_AmqvalueReads.j0 k s more most cut true) true := Fin.step (g' := fun _ => some true) (fun k => by simp only [polyglotlaw17_AmqvalueReads.j0, if_true]) (Fin.const _)
  by_cases h1 : (s.size : Int) > 200
  · exact Fin.ifp h1 far
  refine Fin.ifn h1 ?_
  by_cases h2 : (more.size : Int) > 200
  · rw [decide_eq_true h2]; exact far
  rw [decide_eq_false h2]
  refine Fin.step (fun k => by simp only [polyglotlaw17_AmqvalueReads.j0, Bool.false_eq_true, if_false]; rfl) ?_
  refine Fin.bc (pick_some _ _ m0 m1 (by omega) (by omega)) ?_
  have hge := pickP_ge most 32
  have hlt := pickP_lt most 32 (by omega)
  obtain ⟨m, hm⟩ := Int.eq_ofNat_of_zero_le hge
  rw [hm] at hlt ⊢
  refine Fin.bc (vread_some _ hs) ?_
  rw [rdM_nat (by omega)]
  cases hr : rdE m s.data.toList with
  | error e =>
    have hg := rdE_good m s.data.toList
    rw [hr] at hg
    refine Fin.ifn (by exact hg) (Fin.ifp rfl ?_)
    have := same_fin zV Ok.zero zV
    rw [same_self] at this
    exact Fin.bind this (Fin.const _)
  | ok r =>
    obtain ⟨v, n⟩ := r
    obtain ⟨hv, n1, n2⟩ := rdE_valid hr
    rw [len_list] at n2
    have hok : Ok v := by have := rdE_okR m s.data.toList (by rw [len_list]; omega); rw [hr] at this; exact this
    have hd := chk_depth v m hv
    refine Fin.ifp rfl (Fin.ifn (by dsimp only [outR]; omega) (Fin.ifn (by dsimp only [outR]; omega) ?_))
    refine Fin.bc (vcheck_some _ hok) ?_
    rw [chkM_nat (by omega)]
    refine Fin.ifp hv ?_
    refine Fin.bind (vdepth_fin v hok (by omega)) ?_
    rw [decide_eq_false (by omega)]
    exact reads_j1 s more (by omega) (by omega) m (by omega) v n hr cut c0 c1
end Go.Proofs.YtekpofpgkokoiaaDoor.P
