/- The plain law of AmqprimBack: what fits is read back, whatever follows; the least constructor has the fewest bytes; what is read is written the same. -/
import Derived.Test.YtekpofpgkokoiaaDoorKs
import Derived.Test.YtekpofpgkokoiaaDoorGp
import Derived.Test.YtekpofpgkokoiaaDoorLv
import Derived.Test.YtekpofpgkokoiaaDoorQlaw16AmqprimBackaD
set_option linter.unusedVariables false
set_option linter.unusedSimpArgs false
namespace Go.Proofs.YtekpofpgkokoiaaDoor.P
open Go.RowKit Go.Proofs.YtekpofpgkokoiaaDoor.M Go.Proofs.YtekpofpgkokoiaaDoor.Q Go.Proofs.YtekpofpgkokoiaaDoorW.PrintWords

theorem some_beq {a b : List UInt8} (h : a = b) : some (a == b) = some true := by rw [h]; simp
theorem ofVl_fits {b : Int} {s : Bs} {v : Vl} {n : Nat} (h : getE b s = .ok (v, n)) (hs : s.length ≤ 140737488351232) : okN v.n v.text := by
  obtain ⟨_, _, _, _, h0, h1, _, ht, _⟩ := put_get h
  exact ⟨h0, h1, by omega⟩
theorem back_j4 (s : ByteArray) (hs : s.size ≤ 600) (code : Int) : Fin (fun k => polyglotlaw16_AmqprimBack.j4 k s code false) true := by
  refine Fin.step (fun k => by simp only [polyglotlaw16_AmqprimBack.j4, Bool.false_eq_true, if_false]; rfl) ?_
  refine Fin.bind (get_fin code s (by omega)) ?_
  cases hg : getE code s.data.toList with
  | error e =>
    have he : e ≠ 0 := by
      intro h0
      subst h0
      unfold getE at hg
      split at hg
      · cases hg
      · split at hg
        · cases hg
        · split at hg
          · rename_i e' hr
            injection hg with hg
            subst hg
            unfold rawE at hr
            dsimp only at hr
            repeat' split at hr
            all_goals cases hr
          · unfold checkE at hg
            split at hg
            · cases hg
            · rename_i hc
              injection hg with hg
              unfold badE at hg
              split at hg
              · cases hg
              · exact hc hg
    refine Fin.ifn (by exact he) ?_
    exact Fin.const _
  | ok r =>
    obtain ⟨v, n⟩ := r
    obtain ⟨h1, h2, h3, h4, h5, h6, h7, h8, h9, _⟩ := put_get hg
    have hok := ofVl_fits hg (by rw [len_list]; omega)
    refine Fin.ifp rfl ?_
    dsimp only [outR]
    refine Fin.bc (a := putP code v) (by unfold amqprim_Put.f; rw [if_pos hok, vl_eta]) ?_
    rw [len_list] at h1
    refine Fin.ifp (by omega) (Fin.ifp (by omega) (Fin.bc (a := checkP v) (by unfold amqprim_Check.f; rw [if_pos hok, vl_eta]) (Fin.ifp h2 (Fin.ifp (put_fits h3) (Fin.ifp (by omega) ?_)))))
    refine Fin.of fun k => some_beq ?_
    rw [toL, toL, ext_list, List.drop_zero, Int.toNat_natCast]
    exact h4
/-- The data of a value by wider constructors are no shorter. -/
theorem put_mono (v : Vl) (i j : Nat) (hij : i ≤ j) (hj : j < (codesL v.kind).length) (h1 : (putP ((codesL v.kind)[i]'(by omega)) v).2 = 0) (h2 : (putP (codesL v.kind)[j] v).2 = 0) :
    ((putP ((codesL v.kind)[i]'(by omega)) v).1.size : Int) ≤ (putP (codesL v.kind)[j] v).1.size := by
  have hw := codes_width v.kind i j hij hj
  obtain ⟨c1, c2⟩ := put_len v _ (List.getElem_mem (show i < _ by omega)) h1
  obtain ⟨d1, d2⟩ := put_len v _ (List.getElem_mem hj) h2
  obtain ⟨v1, v2, _⟩ := chk_parts (put_ok h1).1
  have hsz : ∀ k : _root_.Fin 22, ∀ a ∈ codesL k.val, ∀ b ∈ codesL k.val, 1 ≤ k.val → (ofC a).sized = (ofC b).sized := by decide +kernel
  have hs : (ofC ((codesL v.kind)[i]'(by omega))).sized = (ofC (codesL v.kind)[j]).sized := by
    obtain ⟨q, hq⟩ := Int.eq_ofNat_of_zero_le (show 0 ≤ v.kind by omega)
    have := hsz ⟨q, by omega⟩ ((codesL v.kind)[i]'(by omega)) (by rw [← hq]; exact List.getElem_mem _) (codesL v.kind)[j] (by rw [← hq]; exact List.getElem_mem _) (by show 1 ≤ q; omega)
    exact this
  cases h : (ofC (codesL v.kind)[j]).sized with
  | true => have := (c1 (by rw [hs, h])).1; have := (d1 h).1; omega
  | false => have := c2 (by rw [hs, h]); have := d2 h; omega
theorem least_none {v : Vl} (h : ¬ (leastP v).2 = 0) : ∀ j, (hj : j < (codesL v.kind).length) → ¬ fitsP (codesL v.kind)[j] v = true := by
  intro j hj hf
  unfold leastP at h
  rw [if_pos (fits_parts hf).2.2.1] at h
  split at h
  · exact h rfl
  · rename_i hn
    have := List.find?_eq_none.1 hn _ (List.getElem_mem hj)
    exact this hf
theorem fits_iff (c : Int) (v : Vl) : ((putP c v).2 == 0) = fitsP c v := by
  cases h : fitsP c v with
  | true => rw [put_fits h]; rfl
  | false =>
    rw [beq_eq_false_iff_ne]
    intro h0
    rw [(put_ok h0).2] at h
    cases h
theorem back_l0 (v : Vl) (hv : Ok v) (ht : v.text.size ≤ 400) (s : ByteArray) (hs : s.size ≤ 600) (code : Int) :
    ∀ (d i : Nat) (short : Int), i + d = (codesL v.kind).length →
      (short = -1 ∧ (∀ j, (hj : j < (codesL v.kind).length) → j < i → ¬ fitsP (codesL v.kind)[j] v = true) ∨ ∃ j, ∃ hj : j < (codesL v.kind).length, j < i ∧ (putP (codesL v.kind)[j] v).2 = 0 ∧ short = ((putP (codesL v.kind)[j] v).1.size : Int)) →
      Fin (fun q => polyglotlaw16_AmqprimBack.l0 q s code (leastP v).1 (leastP v).2 short (codesL v.kind) (i : Int) v.kind v.n v.text v.items) true := by
  have hlen := codesL_le v.kind
  intro d
  induction d with
  | zero =>
    intro i short hi hsh
    refine Fin.step (fun q => by simp only [polyglotlaw16_AmqprimBack.l0]; rfl) ?_
    refine Fin.ifn (by omega) ?_
    by_cases he : (leastP v).2 = 0
    · refine Fin.ifp he ?_
      rcases hsh with ⟨e, hno⟩ | ⟨j, hj, _, _, e⟩
      · exfalso
        obtain ⟨hf, hc⟩ := least_ok he
        have hm := of_mem (fits_parts hf).1 (fits_parts hf).2.1
        obtain ⟨j, hj, hje⟩ := List.getElem_of_mem hm
        exact hno j hj (by omega) (by rw [hje]; exact hf)
      · rw [show (decide (short < 0)) = false from decide_eq_false (by omega)]
        exact back_j4 s hs code
    · exact Fin.ifn he (back_j4 s hs code)
  | succ d ihd =>
    intro i short hi hsh
    have hil : i < (codesL v.kind).length := by omega
    refine Fin.step (fun q => by simp only [polyglotlaw16_AmqprimBack.l0]; rfl) ?_
    refine Fin.ifp (by omega) (Fin.ifp (by omega) ?_)
    rw [rd_at hil]
    refine Fin.bc (put_some _ hv) (Fin.bc (fits_some _ hv) (Fin.ifn (by rw [fits_iff]; simp) ?_))
    rw [w64s i (by omega)]
    by_cases hp : (putP (codesL v.kind)[i] v).2 = 0
    · refine Fin.ifp hp ?_
      have hf := (put_ok hp).2
      have hb := put_size hp (by omega)
      have he : (leastP v).2 = 0 := by
        refine Classical.byContradiction fun he => ?_
        exact least_none he i hil hf
      refine Fin.ifp he ?_
      -- behind the tests: read back, and on
      have j3 : ∀ short' : Int, (∃ j, ∃ hj : j < (codesL v.kind).length, j < i + 1 ∧ (putP (codesL v.kind)[j] v).2 = 0 ∧ short' = ((putP (codesL v.kind)[j] v).1.size : Int)) →
          Fin (fun q => polyglotlaw16_AmqprimBack.j3 q s code (leastP v).1 (leastP v).2 short' (codesL v.kind) (i : Int) (putP (codesL v.kind)[i] v).1 v.kind v.n v.text v.items) true := by
        intro short' hs'
        refine Fin.step (fun q => by simp only [polyglotlaw16_AmqprimBack.j3]; rfl) ?_
        refine Fin.ifp (by omega) (Fin.ifp (by omega) (Fin.ifp (by omega) ?_))
        rw [rd_at hil]
        have hg := get_put v _ hp hv.n0 hv.n1 s.data.toList
        refine Fin.bind (get_fin _ _ (by rw [ByteArray.size_append]; omega)) ?_
        rw [app_list]
        rw [putL] at hg
        rw [hg]
        refine Fin.ifp rfl (Fin.ifp (by rfl) (Fin.bind (same_fin v hv v) ?_))
        rw [same_self]
        refine Fin.ifp rfl ?_
        rw [w64s i (by omega)]
        exact ihd (i + 1) short' (by omega) (.inr hs')
      have j2 : Fin (fun q => polyglotlaw16_AmqprimBack.j2 q s code (leastP v).1 (leastP v).2 short (codesL v.kind) (i : Int) (putP (codesL v.kind)[i] v).1 false v.kind v.n v.text v.items) true := by
        refine Fin.step (fun q => by simp only [polyglotlaw16_AmqprimBack.j2, Bool.false_eq_true, if_false]; rfl) ?_
        rcases hsh with ⟨e, hno⟩ | ⟨j, hj, hji, hjp, e⟩
        · exact Fin.ifp (by omega) (j3 _ ⟨i, hil, by omega, hp, rfl⟩)
        · exact Fin.ifn (by omega) (j3 _ ⟨j, hj, by omega, hjp, e⟩)
      rcases hsh with ⟨e, hno⟩ | ⟨j, hj, hji, hjp, e⟩
      · refine Fin.ifp (by omega) (Fin.ifp ?_ (Fin.ifn (by omega) j2))
        have hc := (fits_parts hf).2.2.1
        unfold leastP
        rw [if_pos hc]
        have hfind : (codesL v.kind).find? (fun c => fitsP c v) = some (codesL v.kind)[i] := by
          rw [List.find?_eq_some_iff_getElem]
          exact ⟨hf, i, hil, rfl, fun j hj => by simpa using hno j (by omega) hj⟩
        rw [hfind]
      · refine Fin.ifn (by omega) (Fin.ifp (by omega) ?_)
        rw [show (decide (((putP (codesL v.kind)[i] v).1.size : Int) < short)) = false from decide_eq_false (by have := put_mono v j i (by omega) hil hjp hp; omega)]
        exact j2
    · refine Fin.ifn hp (ihd (i + 1) short (by omega) ?_)
      rcases hsh with ⟨e, hno⟩ | ⟨j, hj, hji, hjp, e⟩
      · refine .inl ⟨e, fun j hj hji hf => ?_⟩
        by_cases h : j = i
        · subst h
          exact hp (put_fits hf)
        · exact hno j hj (by omega) hf
      · exact .inr ⟨j, hj, by omega, hjp, e⟩
theorem back_pure (v : Vl) (hw : WfV v) (s : ByteArray) (hs : s.size ≤ 140737488351232) (code : Int) (c0 : -9223372036854775808 ≤ code) (c1 : code ≤ 9223372036854775807) :
    Fin (fun q => polyglotlaw16_AmqprimBack.f q v.kind v.n v.text v.items s code) true := by
  have jT : ∀ a b c d, Fin (fun q => polyglotlaw16_AmqprimBack.j0 q s code true a b c d) true := fun a b c d => Fin.step (g' := fun _ => some true) (fun q => by simp only [polyglotlaw16_AmqprimBack.j0, if_true]) (Fin.const _)
  refine Fin.eq (fun q => by rw [polyglotlaw16_AmqprimBack.f]) ?_
  refine Fin.bc lives16_true (Fin.ifp rfl ?_)
  obtain ⟨b, hb, hl⟩ := light_fin v
  refine Fin.bind hb ?_
  cases b with
  | false => exact Fin.ifn (by simp) (jT _ _ _ _)
  | true =>
    obtain ⟨l1, l2⟩ := hl rfl
    have hv := light_ok v 6 hw l1 (by omega)
    have ht := light_text l1
    refine Fin.ifp rfl ?_
    by_cases hsz : (s.size : Int) > 600
    · rw [decide_eq_true hsz]
      exact jT _ _ _ _
    · rw [decide_eq_false hsz]
      refine Fin.step (fun q => by simp only [polyglotlaw16_AmqprimBack.j0, Bool.false_eq_true, if_false]; rfl) ?_
      refine Fin.bc (least_some hv) (Fin.bc (a := codesL v.kind) rfl ?_)
      exact back_l0 v hv ht s (by omega) code (codesL v.kind).length 0 (-1) (by omega) (.inl ⟨rfl, fun j _ hj => absurd hj (by omega)⟩)
end Go.Proofs.YtekpofpgkokoiaaDoor.P
