/- The walk of the statement AmqprimCodes: for any kind and code it answers true. -/
import Derived.Test.YtekpofpgkokoiaaDoorL16
import Derived.Deep.QuietTactic
import Derived.BigQuiet
set_option linter.unusedVariables false
set_option linter.unusedSimpArgs false
namespace Go.Proofs.YtekpofpgkokoiaaDoor.M
open Go.RowKit Go.Proofs.YtekpofpgkokoiaaDoorW.PrintWords

theorem codes_at (k : Int) (j : Nat) (hj : j < (codesL k).length) : ofB (codesL k)[j] = true ∧ (ofC (codesL k)[j]).code = (codesL k)[j] ∧ (ofC (codesL k)[j]).kind = k := by
  have hall : ∀ k : Fin 26, ∀ c ∈ codesL k.val, ofB c = true ∧ (ofC c).code = c ∧ (ofC c).kind = k.val := by decide +kernel
  by_cases h : 0 ≤ k ∧ k ≤ 25
  · obtain ⟨q, rfl⟩ := Int.eq_ofNat_of_zero_le h.1
    exact hall ⟨q, by omega⟩ _ (List.getElem_mem hj)
  · have := codes_none k h
    rw [this] at hj
    exact absurd hj (by simp)
theorem codes_width (k : Int) (i j : Nat) (hij : i ≤ j) (hj : j < (codesL k).length) : (ofC ((codesL k)[i]'(by omega))).width ≤ (ofC (codesL k)[j]).width := by
  have hall : ∀ k : Fin 26, (codesL k.val).Pairwise fun a b => (ofC a).width ≤ (ofC b).width := by decide +kernel
  by_cases h : 0 ≤ k ∧ k ≤ 25
  · obtain ⟨q, rfl⟩ := Int.eq_ofNat_of_zero_le h.1
    rcases Nat.eq_or_lt_of_le hij with rfl | hlt
    · exact Int.le_refl _
    · exact List.pairwise_iff_getElem.1 (hall ⟨q, by omega⟩) i j (Nat.lt_trans hlt hj) hj hlt
  · have := codes_none k h
    rw [this] at hj
    exact absurd hj (by simp)
/-- A code is among those of its kind, once. -/
theorem codes_count (code k : Int) : (codesL k).countP (fun c => decide (c = code)) = if ofB code = true ∧ (ofC code).kind = k then 1 else 0 := by
  have hall : ∀ c ∈ tableL, ∀ k : Fin 26, (codesL k.val).countP (fun x => decide (x = c.code)) = if c.kind = k.val then 1 else 0 := by decide +kernel
  have hcs : ∀ k : Fin 26, ∀ c ∈ codesL k.val, ofB c = true := by decide +kernel
  have hkb : ∀ c ∈ tableL, 0 ≤ c.kind ∧ c.kind ≤ 25 := by decide
  cases ho : ofO code with
  | none =>
    have hb : ofB code = false := by unfold ofB; rw [ho]; rfl
    rw [hb, if_neg (by simp), List.countP_eq_zero]
    intro c hc hcc
    obtain rfl := of_decide_eq_true hcc
    by_cases h : 0 ≤ k ∧ k ≤ 25
    · obtain ⟨q, rfl⟩ := Int.eq_ofNat_of_zero_le h.1
      have := hcs ⟨q, by omega⟩ _ hc
      rw [hb] at this
      cases this
    · rw [codes_none k h] at hc
      cases hc
  | some c =>
    have hm := List.mem_of_find?_eq_some ho
    have hc : c.code = code := by have := List.find?_some ho; exact of_decide_eq_true this
    have hb : ofB code = true := by unfold ofB; rw [ho]; rfl
    have hC : ofC code = c := by unfold ofC; rw [ho]; rfl
    rw [hb, hC]
    by_cases h : 0 ≤ k ∧ k ≤ 25
    · obtain ⟨q, rfl⟩ := Int.eq_ofNat_of_zero_le h.1
      have := hall c hm ⟨q, by omega⟩
      rw [hc] at this
      simpa using this
    · rw [codes_none k h, if_neg]
      · rfl
      · rintro ⟨_, e⟩
        exact h (e ▸ hkb c hm)

theorem ofC_code (code : Int) (h : ofB code = true) : (ofC code).code = code := by
  cases ho : ofO code with
  | none => unfold ofB at h; rw [ho] at h; cases h
  | some c =>
    have hC : ofC code = c := by unfold ofC; rw [ho]; rfl
    rw [hC]
    have := List.find?_some ho
    exact of_decide_eq_true this
theorem ofC_none (code : Int) (h : ¬ ofB code = true) : (ofC code).code = 0 ∧ (ofC code).kind = 0 ∧ (ofC code).width = 0 ∧ (ofC code).sized = false ∧ (ofC code).items = false := by
  cases ho : ofO code with
  | some c => exact absurd (by unfold ofB; rw [ho]; rfl) h
  | none =>
    have hC : ofC code = ⟨0, 0, 0, false, false⟩ := by unfold ofC; rw [ho]; rfl
    rw [hC]
    exact ⟨rfl, rfl, rfl, rfl, rfl⟩
theorem count_take (l : List Int) (code : Int) (j : Nat) (h : j < l.length) : (l.take (j + 1)).countP (fun c => decide (c = code)) = (l.take j).countP (fun c => decide (c = code)) + if l[j] = code then 1 else 0 := by
  rw [List.take_succ_eq_append_getElem h, List.countP_append]
  by_cases e : l[j] = code <;> simp [e]

set_option maxRecDepth 100000 in
set_option maxHeartbeats 4000000 in
theorem law_codes (kind code : Int) (w : World) (hT : Tb w) : Calls Tryd.prog 4 #[.int .i64 kind, .int .i64 code] w fun e w' => e = .returned (.bool true) ∧ Below w.heap.size w w' := by
  go_enter Tryd.func4, Tryd.ntmps4
  go_wp2_with fail
  refine (lives16 _ hT).mono ?_
  rintro e w1 ⟨rfl, hb1⟩
  go_wp2_with fail
  refine (Of_calls _ _).mono ?_
  rintro e w2 ⟨rfl, hb2⟩
  have HB2 := below_step hb1 hb2
  go_wp2_with fail
  refine (Codes_calls _ _).mono ?_
  rintro e w3 ⟨v, rfl, hR, hb3⟩
  have HB3 := below_step (below_alloc HB2 _) hb3
  have hz3 := new_lt hb3
  obtain ⟨hc3, hf3⟩ := kept_cells hb3
  obtain ⟨A', c', hv, hat⟩ := nums_at hR
  rw [hv]
  have HAT := Lib.hid hat
  have hle := codesL_le kind
  clear hat hR hv
  go_wp2_with fail
  go_loopw [8, 9] (fun m i wr => ∃ j : Nat, j ≤ (codesL kind).length ∧ i = .int .i64 j ∧ m = .int .i64 ((((codesL kind).take j).countP fun c => decide (c = code) : Nat)) ∧ Below w3.heap.size w3 wr) (fun _ i _ => (codesL kind).length - (intOf i).toNat)
  case atStart => exact ⟨0, Nat.zero_le _, rfl, rfl, Below.refl _ _⟩
  case round =>
    obtain ⟨j, hj, rfl, rfl, hbr⟩ := hrel
    by_cases hlt : j < (codesL kind).length
    · obtain ⟨ad, rfl, had, hca⟩ := HAT.out j hlt
      have hcell : wr.cell? (ad.add j) = some (.int .i64 (codesL kind)[j]) := pw_cell_below hbr hca
      obtain ⟨hB, hE1, hE2⟩ := codes_at kind j hlt
      have hcnt := count_take (codesL kind) code j hlt
      have HCNT := Lib.hid hcnt
      have hcb : ((codesL kind).take j).countP (fun c => decide (c = code)) ≤ 3 := Nat.le_trans List.countP_le_length (Nat.le_trans (List.length_take_le _ _) (by omega))
      clear hcnt hca
      go_wp2_with fail
      refine (Of_calls _ _).mono ?_
      rintro e w4 ⟨rfl, hb4⟩
      have HB4 := below_step hbr hb4
      have hcell4 := pw_cell_below hb4 hcell
      clear hcell
      have hcell5 : ∀ o, (w4.alloc o).cell? (ad.add j) = some (.int .i64 (codesL kind)[j]) := fun o => Lib.cell?_alloc_some o hcell4
      go_wp2_with fail
      go_quiet (fail)
      have HBA := below_step hbr (pw_below_drewN (below_alloc hb4 (Obj.cells #[Value.int .i64 (codesL kind)[j], Value.int .i64 kind, Value.int .i64 (ofC (codesL kind)[j]).width, Value.bool (ofC (codesL kind)[j]).sized, Value.bool (ofC (codesL kind)[j]).items] 34)) nq)
      by_cases hj0 : 0 < j
      · have hca' := (HAT.out (j - 1) (by omega))
        obtain ⟨ad', had1, _, hca'⟩ := hca'
        injection had1 with had1
        subst had1
        have hq4 := pw_cell_below HB4 hca'
        have hq5 : ∀ o, (w4.alloc o).cell? (ad.add (j - 1)) = some (.int .i64 (codesL kind)[j - 1]) := fun o => Lib.cell?_alloc_some o hq4
        have hwd := codes_width kind (j - 1) j (by omega) hlt
        clear hca'
        go_wp2_with fail
        refine (Of_calls _ _).mono ?_
        rintro e w5 ⟨rfl, hb5⟩
        have HB5 := below_step HBA hb5
        have hz5 := new_ltN hb5
        obtain ⟨hc5, hf5⟩ := kept_cells hb5
        have hcell6 := pw_cell_below hb5 (hcell5 _)
        have hwd' : decide ((ofC (codesL kind)[j]).width < (ofC (codesL kind)[j - 1]).width) = false := decide_eq_false (by omega)
        have hcell7 : ∀ o, (w5.alloc o).cell? (ad.add j) = some (.int .i64 (codesL kind)[j]) := fun o => Lib.cell?_alloc_some o hcell6
        clear hcell5 hq5 hcell4 hq4
        go_wp2_with fail
        all_goals
          refine ⟨⟨j + 1, by omega, by go_num, ?_, below_alloc HB5 _⟩, by simp [intOf]; omega⟩
          rw [HCNT.out]
          first | rw [if_pos (by simpa using (by assumption : ((codesL kind)[j] == code) = true))] | rw [if_neg (by simpa using (by assumption : ((codesL kind)[j] == code) = false))]
          go_num
      · go_wp2_with fail
        all_goals
          refine ⟨⟨j + 1, by omega, by go_num, ?_, HBA⟩, by simp [intOf]; omega⟩
          rw [HCNT.out]
          first | rw [if_pos (by simpa using (by assumption : ((codesL kind)[j] == code) = true))] | rw [if_neg (by simpa using (by assumption : ((codesL kind)[j] == code) = false))]
          go_num
    · obtain rfl : j = (codesL kind).length := by omega
      have hcnt := codes_count code kind
      rw [List.take_length] at *
      obtain ⟨hcr, hfr⟩ := kept_cells hbr
      have HFIN := below_step HB3 hbr
      have hoc := ofC_code code
      have hon := ofC_none code
      go_wp2_with fail
      all_goals
        first
          | (go_ret; exact ⟨ret_b (by simp_all), HFIN⟩)
          | (exfalso; simp_all; done)
end Go.Proofs.YtekpofpgkokoiaaDoor.M
