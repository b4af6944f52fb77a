/- A part of this claim: what its theorem leans on. -/
import Derived.Test.YtekpofpgkokoiaaDoorZLv17
import Derived.Test.YtekpofpgkokoiaaDoorZQlaw17AmqvalueDepthsaD
set_option linter.unusedVariables false
set_option linter.unusedSimpArgs false
namespace Go.Proofs.YtekpofpgkokoiaaDoor.P
open Go.RowKit Go.Proofs.YtekpofpgkokoiaaDoor.M Go.Proofs.YtekpofpgkokoiaaDoor.Q Go.Proofs.YtekpofpgkokoiaaDoorW.PrintWords
def oneL (v : Vl) : Vl := ⟨22, 0, ⟨#[]⟩, [v]⟩
theorem oneL_ok {v : Vl} (h : Ok v) : Ok (oneL v) := .mk _ ⟨by simp [oneL], by simp [oneL]⟩ (by simp [oneL]) (by simp [oneL]) (by show (0 : Nat) ≤ _; omega) (by simp [oneL]) fun y hy => by
  obtain rfl := List.mem_singleton.1 hy
  exact h
theorem oneL_depth (v : Vl) : depthV (oneL v) = depthV v + 1 := by
  rw [depthV_eq]
  simp [oneL, depthL]
theorem oneL_cnt (v : Vl) : cntV (oneL v) = cntV v + 1 := by
  rw [cntV_eq]
  simp [oneL, cntL]
  omega
theorem oneL_same (v : Vl) : sameV v (oneL v) = false := by
  cases h : sameV v (oneL v) with
  | false => rfl
  | true =>
    have e := (same_iff v _).1 h
    have := congrArg cntV e
    rw [oneL_cnt] at this
    omega
theorem oneL_chk (v : Vl) (b : Nat) : chkV (b + 1) (oneL v) = 0 ↔ chkV b v = 0 := by
  rw [chkV_zero]
  constructor
  · rintro ⟨_, h | ⟨_, _, _, _, h, _⟩⟩
    · exact absurd h.1 (by simp [oneL])
    · exact (h v (.head _)).2
  · intro h
    refine ⟨by simp [oneL], .inr ⟨by simp [oneL], by omega, by simp [oneL, shapedP]; rfl, by simp [oneL], fun x hx => ⟨fun h => absurd h (by simp [oneL]), ?_⟩, by simp [oneL, keysP]⟩⟩
    obtain rfl := List.mem_singleton.1 hx
    exact h
theorem light_depth (v : Vl) : ∀ d : Int, 0 ≤ d → LightP d v → (depthV v : Int) ≤ d + 1 := by
  induction v using Vl_ind with
  | h v ih =>
    intro d h0 hl
    cases hl with
    | mk _ _ hd ht hi =>
      rw [depthV_eq]
      split
      · omega
      · have : depthL v.items ≤ d.toNat := depthL_le _ fun x hx => by
          have hx1 := hi x hx
          have : 0 ≤ d - 1 := by cases hx1; assumption
          have := ih x hx (d - 1) this hx1
          omega
        omega
theorem depths_j2 (v : Vl) (hv : Ok v) (b : Nat) (hb : b ≤ 32) :
    Fin (fun k => polyglotlaw17_AmqvalueDepths.j2 k (b : Int) false v.kind v.n v.text v.items (oneL v).kind (oneL v).n (oneL v).text (oneL v).items) true := by
  refine Fin.step (fun k => by simp only [polyglotlaw17_AmqvalueDepths.j2, Bool.false_eq_true, if_false]; rfl) ?_
  by_cases h0 : b = 0
  · subst h0
    exact Fin.ifp rfl (Fin.const _)
  · obtain ⟨q, rfl⟩ : ∃ q, b = q + 1 := ⟨b - 1, by omega⟩
    refine Fin.ifn (by omega) (Fin.bc (vcheck_some _ (oneL_ok hv)) ?_)
    rw [chkM_nat (by omega), w64 _ (by omega) (by omega), show (((q + 1 : Nat) : Int) - 1) = (q : Int) by omega]
    refine Fin.bc (vcheck_some _ hv) ?_
    rw [chkM_nat (by omega)]
    refine Fin.of fun _ => ?_
    have hc := oneL_chk v q
    congr 1
    rw [beq_iff_eq, Bool.eq_iff_iff, beq_iff_eq, beq_iff_eq]
    exact hc
theorem depths_j1 (v : Vl) (hv : Ok v) (hc : cntV v ≤ 40) (hd : depthV v ≤ 7) (b : Nat) (hb : b ≤ 32) :
    Fin (fun k => polyglotlaw17_AmqvalueDepths.j1 k (b : Int) (depthV v : Int) (cntV v : Int) false v.kind v.n v.text v.items) true := by
  refine Fin.step (fun k => by simp only [polyglotlaw17_AmqvalueDepths.j1, Bool.false_eq_true, if_false]; rfl) ?_
  have hL : polyglotkit_L.f ([(⟨v.kind, v.n, v.text, v.items⟩ : Vl)] : List Vl) = some ((oneL v).kind, (oneL v).n, (oneL v).text, (oneL v).items) := by
    rw [vl_eta]
    rfl
  refine Fin.bc hL ?_
  refine Fin.bind (vdepth_fin (oneL v) (oneL_ok hv) (by rw [oneL_depth]; omega)) ?_
  refine Fin.ifp (by rw [oneL_depth, w64s _ (by omega)]) ?_
  refine Fin.bind (vcount_fin (oneL v) (oneL_ok hv) (by rw [oneL_cnt]; omega)) ?_
  refine Fin.ifp (by rw [oneL_cnt, w64s _ (by omega)]) ?_
  refine Fin.bind (vsame_fin v hv (oneL v)) ?_
  rw [oneL_same]
  exact depths_j2 v hv b hb
theorem depths_j0 (v : Vl) (hv : Ok v) (hc : cntV v ≤ 40) (hd : depthV v ≤ 7) (a b : Nat) (ha : a ≤ b) (hb : b ≤ 32) :
    Fin (fun k => polyglotlaw17_AmqvalueDepths.j0 k (a : Int) (b : Int) v.kind v.n v.text v.items) true := by
  refine Fin.step (fun k => by simp only [polyglotlaw17_AmqvalueDepths.j0]; rfl) ?_
  refine Fin.bind (vdepth_fin v hv (by omega)) (Fin.bind (vcount_fin v hv (by omega)) (Fin.bc (vcheck_some _ hv) (Fin.bc (vcheck_some _ hv) ?_)))
  rw [chkM_nat (by omega), chkM_nat (by omega)]
  have hc1 : 1 ≤ cntV v := by rw [cntV_eq]; omega
  have fin : Fin (fun k => polyglotlaw17_AmqvalueDepths.j1 k (b : Int) (depthV v : Int) (cntV v : Int) (decide ((cntV v : Int) < 1)) v.kind v.n v.text v.items) true := by
    rw [decide_eq_false (by omega)]
    exact depths_j1 v hv hc hd b hb
  by_cases hx : chkV a v = 0
  · have hy := chk_mono v a b ha hx
    have hda := chk_depth v a hx
    exact Fin.ifp hx (Fin.ifp hy (Fin.ifn (by omega) (Fin.ifn (by omega) fin)))
  · exact Fin.ifn hx (Fin.ifn (by omega) fin)
theorem depths_pure (v : Vl) (hw : WfV v) (a : Int) (a0 : -9223372036854775808 ≤ a) (a1 : a ≤ 9223372036854775807) (b : Int) (b0 : -9223372036854775808 ≤ b) (b1 : b ≤ 9223372036854775807) :
    Fin (fun k => polyglotlaw17_AmqvalueDepths.f k v.kind v.n v.text v.items a b) true := by
  refine Fin.eq (fun k => by rw [polyglotlaw17_AmqvalueDepths.f]) ?_
  refine Fin.bind lives17_true (Fin.ifp rfl ?_)
  obtain ⟨c, hc, hl⟩ := light_fin v
  refine Fin.bind hc ?_
  cases c with
  | false => exact Fin.ifn (by simp) (Fin.const _)
  | true =>
    obtain ⟨hl, hcn⟩ := hl rfl
    have hv := light_ok v 6 hw hl (by omega)
    have hd := light_depth v 6 (by omega) hl
    refine Fin.ifp rfl (Fin.bc (pick_some _ _ a0 a1 (by omega) (by omega)) (Fin.bc (pick_some _ _ b0 b1 (by omega) (by omega)) ?_))
    have hag := pickP_ge a 33
    have hal := pickP_lt a 33 (by omega)
    have hbg := pickP_ge b 33
    have hbl := pickP_lt b 33 (by omega)
    obtain ⟨p, hp⟩ := Int.eq_ofNat_of_zero_le hag
    obtain ⟨q, hq⟩ := Int.eq_ofNat_of_zero_le hbg
    rw [hp] at hal ⊢
    rw [hq] at hbl ⊢
    by_cases hpq : (p : Int) > q
    · exact Fin.ifp hpq (depths_j0 v hv hcn (by omega) q p (by omega) (by omega))
    · exact Fin.ifn hpq (depths_j0 v hv hcn (by omega) p q (by omega) (by omega))
end Go.Proofs.YtekpofpgkokoiaaDoor.P
