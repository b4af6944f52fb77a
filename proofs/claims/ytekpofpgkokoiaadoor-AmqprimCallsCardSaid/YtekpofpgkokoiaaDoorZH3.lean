/- A part of this claim: what its theorem leans on. -/
import Derived.Test.YtekpofpgkokoiaaDoorZH2
import Derived.Deep.RegionWith
import Derived.Deep.RegionHeld3
set_option linter.unusedVariables false
set_option linter.unusedSimpArgs false
namespace Go.Proofs.YtekpofpgkokoiaaDoor.M
open Go.RowKit Go.Proofs.YtekpofpgkokoiaaDoorW.PrintWords
set_option maxHeartbeats 1000000 in
theorem closure_of (c1 k1 w1 : Int) (s1 i1 : Bool) (code : Int) (W : World) : Calls Tryd.prog 85 #[.agg #[.int .i64 c1, .int .i64 k1, .int .i64 w1, .bool s1, .bool i1], .int .i64 code] W fun e w' => e = .returned (.int .i64 (cmpC c1 code)) ∧ Below W.heap.size W w' := by
  have hcon := fun W' => AnyG.cmp_Compare_int Tryd.cmpL c1 code W'
  change ∀ W', Calls Tryd.prog 78 _ _ _ at hcon
  unfold cmpC
  generalize Lib.compareInt c1 code = r at hcon ⊢
  go_enter Tryd.func85, Tryd.ntmps85
  go_wp2_with (go_at_call 78; refine (hcon _).mono ?_; rintro e w' ⟨rfl, rfl⟩)
  go_ret
  exact ⟨rfl, below_new _ _⟩
theorem cmpC_lt (a b : Int) : (cmpC a b < 0) ↔ a < b := by
  unfold cmpC Lib.compareInt
  by_cases h1 : a < b
  · simp [h1]
  · by_cases h2 : b < a <;> simp [h1, h2]
theorem cmpC_eq (a b : Int) : (cmpC a b = 0) ↔ a = b := by
  unfold cmpC Lib.compareInt
  by_cases h1 : a < b
  · simp [h1]; omega
  · by_cases h2 : b < a <;> simp [h1, h2] <;> omega
def tc (j : Nat) : Ct := tableL.getD j zC
theorem tc_sorted : ∀ i j, i < j → j < 40 → (tc i).code < (tc j).code := by
  have h : ∀ i : Fin 40, ∀ j : Fin 40, i.val < j.val → (tc i.val).code < (tc j.val).code := by decide
  exact fun i j hij hj => h ⟨i, by omega⟩ ⟨j, hj⟩ hij
theorem tc_of : ∀ j, j < 40 → ofO (tc j).code = some (tc j) := by
  have h : ∀ j : Fin 40, ofO (tc j.val).code = some (tc j.val) := by decide
  exact fun j hj => h ⟨j, hj⟩
set_option maxRecDepth 100000 in
set_option maxHeartbeats 2000000 in
theorem search_calls (g cap : Nat) (code : Int) (w : World) (hg : g < w.heap.size)
    (hc : ∀ j, j < 40 → w.cell? ⟨g, j * 5, none⟩ = some (.int .i64 (tc j).code) ∧ w.cell? ⟨g, j * 5 + 1, none⟩ = some (.int .i64 (tc j).kind) ∧ w.cell? ⟨g, j * 5 + 2, none⟩ = some (.int .i64 (tc j).width) ∧ w.cell? ⟨g, j * 5 + 3, none⟩ = some (.bool (tc j).sized) ∧ w.cell? ⟨g, j * 5 + 4, none⟩ = some (.bool (tc j).items)) :
    Calls Tryd.prog 84 #[.slice (some ⟨g, 0, none⟩) 40 cap, .int .i64 code, .func (.func 85) #[] #[]] w fun e w' => (∃ j : Nat, j ≤ 40 ∧ (∀ q, q < j → (tc q).code < code) ∧ (∀ q, j ≤ q → q < 40 → code ≤ (tc q).code) ∧ e = .returned (.tuple #[.int .i64 j, .bool (decide (j < 40 ∧ (tc j).code = code))])) ∧ Below w.heap.size w w' := by
  have Hc := Lib.hid hc
  clear hc
  go_enter Tryd.func84, Tryd.ntmps84
  go_wp2
  go_loopw [9, 10, 11] (fun i j _ wr => ∃ a b : Nat, a ≤ b ∧ b ≤ 40 ∧ i = .int .i64 a ∧ j = .int .i64 b ∧ Hid (∀ q, q < a → (tc q).code < code) ∧ Hid (∀ q, b ≤ q → q < 40 → code ≤ (tc q).code) ∧ Below w.heap.size w wr) (fun i j _ _ => (intOf j).toNat - (intOf i).toNat)
  case atStart => exact ⟨0, 40, by omega, by omega, rfl, rfl, Lib.hid (fun q h => by omega), Lib.hid (fun q h1 h2 => by omega), Below.refl _ _⟩
  case round =>
    obtain ⟨a, b, hab, hb, rfl, rfl, HA, HB, hbw⟩ := hrel
    by_cases hlt : a < b
    · obtain ⟨h0, h1, h2, h3, h4⟩ := Hc.out ((a + b) / 2) (by omega)
      have k0 := pw_cell_below hbw h0
      have k1 := pw_cell_below hbw h1
      have k2 := pw_cell_below hbw h2
      have k3 := pw_cell_below hbw h3
      have k4 := pw_cell_below hbw h4
      clear h0 h1 h2 h3 h4
      have hm1 : a ≤ (a + b) / 2 := by omega
      have hm2 : (a + b) / 2 < b := by omega
      go_wp2_with (go_at_call 85; refine (closure_of _ _ _ _ _ _ _).mono ?_; rintro e w1 ⟨rfl, hb1⟩)
      · go_roundw
        case rel =>
          have hq : (tc ((a + b) / 2)).code < code := (cmpC_lt _ _).1 (by assumption)
          exact ⟨(a + b) / 2 + 1, b, by omega, by omega, by go_num, rfl, Lib.hid (fun q hql => if e : q = (a + b) / 2 then by subst e; exact hq else Int.lt_trans (tc_sorted q _ (by omega) (by omega)) hq), HB, below_step hbw hb1⟩
        case measure => simp [intOf]; omega
      · go_roundw
        case rel =>
          have hq : ¬ cmpC (tc ((a + b) / 2)).code code < 0 := by first | assumption | (have h : 0 ≤ cmpC (tc ((a + b) / 2)).code code := (by assumption); omega)
          have hq' : code ≤ (tc ((a + b) / 2)).code := by have := mt (cmpC_lt (tc ((a + b) / 2)).code code).2 hq; omega
          exact ⟨a, (a + b) / 2, by omega, by omega, rfl, by go_num, HA, Lib.hid (fun q h1 h2 => if e : q = (a + b) / 2 then by subst e; exact hq' else Int.le_of_lt (Int.lt_of_le_of_lt hq' (tc_sorted _ q (by omega) (by omega)))), below_step hbw hb1⟩
        case measure => simp [intOf]; omega
    · obtain rfl : a = b := by omega
      by_cases h40 : a < 40
      · obtain ⟨h0, h1, h2, h3, h4⟩ := Hc.out a h40
        have k0 := pw_cell_below hbw h0
        have k1 := pw_cell_below hbw h1
        have k2 := pw_cell_below hbw h2
        have k3 := pw_cell_below hbw h3
        have k4 := pw_cell_below hbw h4
        clear h0 h1 h2 h3 h4
        go_wp2_with (go_at_call 85; refine (closure_of _ _ _ _ _ _ _).mono ?_; rintro e w1 ⟨rfl, hb1⟩)
        go_ret2
        refine ⟨⟨a, hb, HA.out, HB.out, ret_ib rfl ?_⟩, below_step hbw hb1⟩
        rw [Bool.eq_iff_iff]
        simp [cmpC_eq, h40]
      · go_wp2
        go_ret2
        exact ⟨⟨a, hb, HA.out, HB.out, ret_ib rfl (by simp [h40])⟩, hbw⟩
theorem ofO_some {code : Int} {j : Nat} (hj : j < 40) (h : (tc j).code = code) : ofO code = some (tc j) := by rw [← h]; exact tc_of j hj
theorem ofO_none {code : Int} {j : Nat} (h1 : ∀ q, q < j → (tc q).code < code) (h2 : ∀ q, j ≤ q → q < 40 → code ≤ (tc q).code) (h : ¬ (j < 40 ∧ (tc j).code = code)) : ofO code = none := by
  unfold ofO
  rw [List.find?_eq_none]
  intro c hc
  obtain ⟨q, hq, rfl⟩ := List.mem_iff_getElem.1 hc
  have hq40 : q < 40 := hq
  have e : tableL[q] = tc q := by unfold tc; rw [List.getD_eq_getElem?_getD, List.getElem?_eq_getElem hq]; rfl
  intro hdec
  have hcode : (tc q).code = code := by rw [← e]; exact of_decide_eq_true hdec
  rcases Nat.lt_or_ge q j with hqj | hqj
  · have := h1 q hqj
    omega
  · rcases Nat.eq_or_lt_of_le hqj with he | he
    · subst he
      exact h ⟨hq40, hcode⟩
    · have a1 := h2 j (Nat.le_refl _) (by omega)
      have a2 := tc_sorted j q he hq40
      omega
theorem table_cells {w : World} {base : Nat} {ok : Nat → Prop} {v : Value} (h : Kd.R kC 34 w base ok v tableL) : ∃ g cap, v = .slice (some ⟨g, 0, none⟩) 40 cap ∧ base ≤ g ∧ g < w.heap.size ∧
    ∀ j, j < 40 → w.cell? ⟨g, j * 5, none⟩ = some (.int .i64 (tc j).code) ∧ w.cell? ⟨g, j * 5 + 1, none⟩ = some (.int .i64 (tc j).kind) ∧ w.cell? ⟨g, j * 5 + 2, none⟩ = some (.int .i64 (tc j).width) ∧ w.cell? ⟨g, j * 5 + 3, none⟩ = some (.bool (tc j).sized) ∧ w.cell? ⟨g, j * 5 + 4, none⟩ = some (.bool (tc j).items) := by
  obtain ⟨inner, ho⟩ := Kd.R_own h
  obtain ⟨g, cap, rfl, hg, hl⟩ := ho.form (by decide)
  obtain ⟨A, c, e, _, hC⟩ := Kd.R_reads h
  refine ⟨g, cap, rfl, hg, hl, fun j hj => ?_⟩
  obtain ⟨ad, ha, h0, h1, h2, h3, h4⟩ := atC hC j (by omega) (by show (j : Int) < ((40 : Nat) : Int); omega)
  injection e with e1 e2 e3
  rw [ha] at e1
  injection e1 with e1
  subst e1
  have hn : (j : Int).toNat = j := by omega
  rw [hn, add_plain] at h0 h1 h2 h3 h4
  exact ⟨h0, h1, h2, h3, h4⟩
theorem ret_of {c c' : Ct} {b b' : Bool} (h : c = c') (hb : b = b') : Ending.returned (.tuple #[.agg #[.int .i64 c'.code, .int .i64 c'.kind, .int .i64 c'.width, .bool c'.sized, .bool c'.items], .bool b']) = .returned (.tuple #[.agg #[.int .i64 c.code, .int .i64 c.kind, .int .i64 c.width, .bool c.sized, .bool c.items], .bool b]) := by rw [h, hb]
set_option maxRecDepth 100000 in
set_option maxHeartbeats 2000000 in
theorem Of_calls (code : Int) (w : World) : Calls Tryd.prog 23 #[.int .i64 code] w fun e w' => e = .returned (.tuple #[.agg #[.int .i64 (ofC code).code, .int .i64 (ofC code).kind, .int .i64 (ofC code).width, .bool (ofC code).sized, .bool (ofC code).items], .bool (ofB code)]) ∧ Below w.heap.size w w' := by
  go_enter Tryd.func23, Tryd.ntmps23
  go_wp2_with (go_at_call 75; refine (table_calls _).mono ?_; rintro e w1 ⟨v, rfl, hR, hb1⟩; have HB1 := below_step (below_new _ _) hb1; have hz1 := new_lt hb1; obtain ⟨hc1, hf1⟩ := kept_cells hb1; obtain ⟨g, cap, hv, hg, hgl, hcells⟩ := table_cells hR; rw [hv])
  have hng : w.heap.size ≠ g := by have : (w.alloc (Obj.cells #[Value.int IntKind.i64 0, Value.int IntKind.i64 0, Value.int IntKind.i64 0, Value.bool false, Value.bool false] 34)).heap.size = w.heap.size + 1 := by simp
                                   omega
  have Hc := Lib.hid hcells
  have HV := Lib.hid hv
  clear hcells hv hR
  refine (search_calls g cap code _ hgl Hc.out).mono ?_
  rintro e w2 ⟨⟨j, hj, hq1, hq2, rfl⟩, hb2⟩
  have HQ1 := Lib.hid hq1
  have HQ2 := Lib.hid hq2
  clear hq1 hq2
  have HB2 := below_step HB1 hb2
  have hz2 := Nat.lt_of_lt_of_le hz1 hb2.size
  obtain ⟨hc2, hf2⟩ := kept_cells hb2
  by_cases hjc : j < 40 ∧ (tc j).code = code
  · have hd : decide (j < 40 ∧ (tc j).code = code) = true := decide_eq_true hjc
    obtain ⟨h0, h1, h2, h3, h4⟩ := Hc.out j hjc.1
    have hj40 := hjc.1
    have hO : ofO code = some (tc j) := ofO_some hjc.1 hjc.2
    have HO := Lib.hid hO
    clear hO hjc
    rw [hd]
    clear hd
    go_wp2
    have bk := put5 (blk_below (blk_below (blk_new w (Obj.cells #[Value.int IntKind.i64 0, Value.int IntKind.i64 0, Value.int IntKind.i64 0, Value.bool false, Value.bool false] 34)) hb1) hb2) (.int .i64 (tc j).code) (.int .i64 (tc j).kind) (.int .i64 (tc j).width) (.bool (tc j).sized) (.bool (tc j).items)
    refine bodyPost_ret (results_ct rfl _ _ w.heap.size 34 _ (0, 0) _ rfl bk Tryd.underlying34 rfl (by kernel_rfl)) rfl ⟨?_, below_put5 HB2 (Nat.le_refl _) _ _ _ _ _⟩
    exact ret_of (by unfold ofC; rw [HO.out]; rfl) (by unfold ofB; rw [HO.out]; rfl)
  · have hd : decide (j < 40 ∧ (tc j).code = code) = false := decide_eq_false hjc
    have hO : ofO code = none := ofO_none HQ1.out HQ2.out hjc
    have HO := Lib.hid hO
    clear hO hjc
    rw [hd]
    clear hd
    go_wp2
    have bk := put5 (blk_below (blk_below (blk_new w (Obj.cells #[Value.int IntKind.i64 0, Value.int IntKind.i64 0, Value.int IntKind.i64 0, Value.bool false, Value.bool false] 34)) hb1) hb2) (.int .i64 0) (.int .i64 0) (.int .i64 0) (.bool false) (.bool false)
    refine bodyPost_ret (results_ct rfl _ _ w.heap.size 34 _ (0, 0) _ rfl bk Tryd.underlying34 rfl (by kernel_rfl)) rfl ⟨?_, below_put5 HB2 (Nat.le_refl _) _ _ _ _ _⟩
    exact ret_of (c' := zC) (by unfold ofC; rw [HO.out]; rfl) (by unfold ofB; rw [HO.out]; rfl)
end Go.Proofs.YtekpofpgkokoiaaDoor.M
set_option linter.unusedVariables false
set_option linter.unusedSimpArgs false
namespace Go.Proofs.YtekpofpgkokoiaaDoor.M
open Go.RowKit Go.Proofs.YtekpofpgkokoiaaDoorW.PrintWords Go.Sort Go.Shelf
def cmpW (x y : Int) : Int := Lib.compareInt (ofC x).width (ofC y).width
set_option maxHeartbeats 1000000 in
theorem closure_width (c1 k1 w1 c2 k2 w2 : Int) (s1 i1 s2 i2 : Bool) (W : World) : Calls Tryd.prog 77 #[.agg #[.int .i64 c1, .int .i64 k1, .int .i64 w1, .bool s1, .bool i1], .agg #[.int .i64 c2, .int .i64 k2, .int .i64 w2, .bool s2, .bool i2]] W fun e w' => e = .returned (.int .i64 (Lib.compareInt w1 w2)) ∧ ∃ q os', w' = grow (W.drewN q) os' := by
  have hcon := fun W' => AnyG.cmp_Compare_int Tryd.cmpL w1 w2 W'
  change ∀ W', Calls Tryd.prog 78 _ _ _ at hcon
  generalize Lib.compareInt w1 w2 = r at hcon ⊢
  go_enter Tryd.func77, Tryd.ntmps77
  go_wp2_with (go_at_call 78; refine (hcon _).mono ?_; rintro e w' ⟨rfl, rfl⟩)
  go_ret
  exact ⟨rfl, 0, _, by rw [alloc_eq_grow, alloc_eq_grow, grow_grow]; rfl⟩
theorem cmpLaysW (blk off size : Nat) (w : World) : CmpLays Tryd.prog 77 #[] encC 5 cmpW blk off size w :=
  fun _ _ _ _ x y => closure_width x (ofC x).kind (ofC x).width y (ofC y).kind (ofC y).width (ofC x).sized (ofC x).items (ofC y).sized (ofC y).items _
set_option maxRecDepth 100000 in
set_option maxHeartbeats 2000000 in
theorem stable_calls (g cap : Nat) (d : Array Int) (w : World) (h1 : 1 ≤ d.size) (h12 : d.size ≤ 12) (hH : HoldsK encC 5 w g 0 d) (hg : g < w.heap.size) :
    Calls Tryd.prog 76 #[.slice (some ⟨g, 0, none⟩) d.size cap, .func (.func 77) #[] #[]] w fun e w' => e = .returned (.tuple #[]) ∧ ∃ n os, w' = sortWorldK encC 5 w g 0 n (Sort.insertionSort (ltOf cmpW) d 0 d.size) os := by
  have eg : ∀ args w, (callFunc 77 args).run Tryd.prog w = .ok (.enter 77 args) w := enters_of Tryd.func77 (by kernel_rfl) rfl
  have hcon := AnyQ.insertionSortCmpFunc Tryd.insL 5 Tryd.isAgg34 Tryd.sizeOf34 encC encC_len encC_one cmpW 77 #[] g 0 cap 0 d.size d w eg (cmpLaysW g 0 _ _) hH hg (Nat.zero_le _) (Nat.le_refl _) (by omega)
  change Calls Tryd.prog 160 _ _ _ at hcon
  clear hH eg
  generalize Sort.insertionSort (ltOf cmpW) d 0 d.size = r at hcon ⊢
  generalize d.size = n at *
  go_enter Tryd.func76, Tryd.ntmps76
  go_wp2
  refine wp_loop_rounds 1 ?_
  rw [rounds_succ]
  go_wp2_with (go_at_call 160; refine hcon.mono ?_; rintro e w' ⟨rfl, m, os, rfl⟩)
  refine wp_loop_rounds 1 ?_
  rw [rounds_succ]
  go_wp2
  go_end0
  go_wp2
  go_end0
  exact ⟨rfl, m, os, rfl⟩
set_option maxRecDepth 100000 in
set_option maxHeartbeats 2000000 in
theorem stable_none (A : Option Addr) (c : Nat) (w : World) :
    Calls Tryd.prog 76 #[.slice A 0 c, .func (.func 77) #[] #[]] w fun e w' => e = .returned (.tuple #[]) ∧ w = w' := by
  go_enter Tryd.func76, Tryd.ntmps76
  go_wp2
  refine wp_loop_rounds 1 ?_
  rw [rounds_succ]
  go_wp2
  refine wp_loop_rounds 1 ?_
  rw [rounds_succ]
  go_wp2
  go_end0
  go_wp2
  refine wp_loop_rounds 1 ?_
  rw [rounds_succ]
  go_wp2
  go_end0
  go_wp2
  go_end0
  exact ⟨rfl, rfl⟩
def takenC (k : Int) (j : Nat) : List Ct := (tableL.take j).filter fun c => decide (c.kind = k)
theorem takenC_succ (k : Int) (j : Nat) (hj : j < 40) : takenC k (j + 1) = if (tc j).kind = k then takenC k j ++ [tc j] else takenC k j := by
  unfold takenC
  have e : tableL.take (j + 1) = tableL.take j ++ [tc j] := by
    rw [List.take_succ_eq_append_getElem (show j < tableL.length from hj)]
    congr 2
    unfold tc
    rw [List.getD_eq_getElem?_getD, List.getElem?_eq_getElem (show j < tableL.length from hj)]
    rfl
  rw [e, List.filter_append]
  by_cases h : (tc j).kind = k <;> simp [h]
def sortedC (k : Int) : List Int := (Sort.insertionSort (ltOf cmpW) ((takenC k 40).map (·.code)).toArray 0 (takenC k 40).length).toList
theorem kinds_all : ∀ k : Fin 26, sortedC k.val = codesL k.val := by decide +kernel
theorem kinds_none (k : Int) (h : ¬ (0 ≤ k ∧ k ≤ 25)) : takenC k 40 = [] := by
  unfold takenC
  rw [List.filter_eq_nil_iff]
  have hb : ∀ c ∈ tableL, 0 ≤ c.kind ∧ c.kind ≤ 25 := by decide
  intro c hc
  have := hb c (List.mem_of_mem_take hc)
  rw [decide_eq_true_iff]
  omega
theorem codes_none (k : Int) (h : ¬ (0 ≤ k ∧ k ≤ 25)) : codesL k = [] := by
  unfold codesL
  split
  · rfl
  · rw [List.getD_eq_getElem?_getD, List.getElem?_eq_none (show codesT.length ≤ k.toNat by show 26 ≤ k.toNat; omega)]
    rfl
theorem sorted_codesL (k : Int) : sortedC k = codesL k := by
  by_cases h : 0 ≤ k ∧ k ≤ 25
  · have := kinds_all ⟨k.toNat, by omega⟩
    rwa [show ((⟨k.toNat, by omega⟩ : Fin 26).val : Int) = k by show ((k.toNat : Nat) : Int) = k; omega] at this
  · rw [codes_none k h]
    unfold sortedC
    rw [kinds_none k h]
    decide +kernel
def RowC (w : World) (A : Option Addr) (l : List Int) : Prop := ∀ j, (hj : j < l.length) → ∃ g, A = some ⟨g, 0, none⟩ ∧ g < w.heap.size ∧
  w.cell? ⟨g, j * 5, none⟩ = some (.int .i64 l[j]) ∧ w.cell? ⟨g, j * 5 + 1, none⟩ = some (.int .i64 (ofC l[j]).kind) ∧ w.cell? ⟨g, j * 5 + 2, none⟩ = some (.int .i64 (ofC l[j]).width) ∧ w.cell? ⟨g, j * 5 + 3, none⟩ = some (.bool (ofC l[j]).sized) ∧ w.cell? ⟨g, j * 5 + 4, none⟩ = some (.bool (ofC l[j]).items)
theorem RowC.below {w w1 : World} {A : Option Addr} {l : List Int} (h : RowC w A l) (hb : Below w.heap.size w w1) : RowC w1 A l := fun j hj => by
  obtain ⟨g, hA, hg, h0, h1, h2, h3, h4⟩ := h j hj
  exact ⟨g, hA, Nat.lt_of_lt_of_le hg hb.size, pw_cell_below hb h0, pw_cell_below hb h1, pw_cell_below hb h2, pw_cell_below hb h3, pw_cell_below hb h4⟩
theorem flat_at (d : Array Int) (j i : Nat) (hj : j < d.size) (hi : i < 5) : (flatK encC 5 d)[j * 5 + i]! = (encC d[j]!)[i]! := by
  rw [get_flatK encC 5 d (j * 5 + i) (by omega), show (j * 5 + i) / 5 = j by omega, show (j * 5 + i) % 5 = i by omega]
theorem rowC_of_holds {w : World} {g : Nat} {d : Array Int} (h : HoldsK encC 5 w g 0 d) (hg : g < w.heap.size) : RowC w (some ⟨g, 0, none⟩) d.toList := by
  intro j hj
  have hj' : j < d.size := hj
  have hs : (flatK encC 5 d).size = d.size * 5 := size_flatK _ _ _
  have e : d[j]! = d.toList[j] := by rw [getElem!_pos d j hj']; rfl
  have at_ : ∀ i, i < 5 → w.cell? ⟨g, j * 5 + i, none⟩ = some (encC d.toList[j])[i]! := by
    intro i hi
    have h1 := (h (j * 5 + i) (by rw [hs]; omega)).1
    rw [Nat.zero_add, flat_at d j i hj' hi, e] at h1
    exact h1
  exact ⟨g, rfl, hg, at_ 0 (by omega), at_ 1 (by omega), at_ 2 (by omega), at_ 3 (by omega), at_ 4 (by omega)⟩
theorem table_enc : ∀ c ∈ tableL, cellsC c = encC c.code := by
  have h : ∀ c ∈ tableL, ofC c.code = c := by decide
  intro c hc
  unfold cellsC encC
  rw [h c hc]
theorem holds_taken {w : World} {base g n cap : Nat} {l : List Ct} (hl : ∀ c ∈ l, cellsC c = encC c.code) (h : Kd.R kC 34 w base (fun _ => True) (.slice (some ⟨g, 0, none⟩) n cap) l) (hn : n = l.length) : HoldsK encC 5 w g 0 (l.map (·.code)).toArray := by
  obtain ⟨inner, ho⟩ := Kd.R_own h
  subst hn
  obtain ⟨cur, _, hb, _⟩ := own_block ho
  obtain ⟨A, c, e, _, hC⟩ := Kd.R_reads h
  injection e with e1 e2 e3
  subst e1
  intro t ht
  refine ⟨?_, blk_frozen hb _⟩
  have hs : (flatK encC 5 (l.map (·.code)).toArray).size = l.length * 5 := by rw [size_flatK]; simp
  rw [hs] at ht
  obtain ⟨q, i, hi5, rfl⟩ : ∃ q i, i < 5 ∧ t = q * 5 + i := ⟨t / 5, t % 5, Nat.mod_lt _ (by omega), by omega⟩
  have hq : q < l.length := by omega
  obtain ⟨ad, ha, h0, h1, h2, h3, h4⟩ := atC hC (q : Int) (by omega) (by omega)
  injection ha with ha
  subst ha
  have hn : (q : Int).toNat = q := by omega
  have hp : rdC l (q : Int) = l[q] := by unfold rdC; rw [hn, List.getD_eq_getElem?_getD, List.getElem?_eq_getElem hq]; rfl
  rw [hn, add_plain, hp] at h0 h1 h2 h3 h4
  have he := hl l[q] (List.getElem_mem hq)
  have hd : (l.map (·.code)).toArray[q]! = l[q].code := by rw [getElem!_pos _ _ (by simpa using hq)]; simp
  have hf := flat_at (l.map (·.code)).toArray q i (by simpa using hq) hi5
  rw [hd, ← he] at hf
  rw [Nat.zero_add, hf]
  rcases (by omega : i = 0 ∨ i = 1 ∨ i = 2 ∨ i = 3 ∨ i = 4) with rfl | rfl | rfl | rfl | rfl
  · exact h0
  · exact h1
  · exact h2
  · exact h3
  · exact h4
theorem taken_len (k : Int) : (takenC k 40).length = (codesL k).length := by
  have hall : ∀ k : Fin 26, (takenC k.val 40).length = (codesL k.val).length := by decide +kernel
  by_cases h : 0 ≤ k ∧ k ≤ 25
  · have := hall ⟨k.toNat, by omega⟩
    rwa [show ((⟨k.toNat, by omega⟩ : Fin 26).val : Int) = k by show ((k.toNat : Nat) : Int) = k; omega] at this
  · rw [codes_none k h, kinds_none k h]
    rfl
theorem stable_all (k : Int) (v : Value) (base : Nat) (W : World) (h : Kd.R kC 34 W base (fun _ => True) v (takenC k 40)) :
    ∃ A c, v = .slice A (codesL k).length c ∧ Calls Tryd.prog 76 #[.slice A (codesL k).length c, .func (.func 77) #[] #[]] W fun e w' => e = .returned (.tuple #[]) ∧ RowC w' A (codesL k) ∧ (∀ w0, Below base w0 W → base ≤ W.heap.size → Below base w0 w') := by
  have hlen := taken_len k
  obtain ⟨A, c, hv⟩ := Kd.R_slice h
  rw [hlen] at hv
  refine ⟨A, c, hv, ?_⟩
  rcases Nat.eq_zero_or_pos (codesL k).length with h0 | h0
  · rw [h0]
    refine (stable_none A c W).mono ?_
    rintro e w' ⟨rfl, rfl⟩
    exact ⟨rfl, fun j hj => absurd hj (by omega), fun w0 hb _ => hb⟩
  · obtain ⟨inner, ho⟩ := Kd.R_own h
    obtain ⟨g, cap, hf, hg, hgl⟩ := ho.form (by omega)
    rw [hf] at hv h
    injection hv with hv1 hv2 hv3
    subst hv1 hv3
    have hH : HoldsK encC 5 W g 0 ((takenC k 40).map (·.code)).toArray := holds_taken (fun c hc => table_enc c (List.mem_of_mem_take (List.mem_filter.1 hc).1)) h rfl
    have hsd0 : (Sort.insertionSort (ltOf cmpW) ((takenC k 40).map (·.code)).toArray 0 (takenC k 40).length).toList = codesL k := sorted_codesL k
    have hsz : ((takenC k 40).map (·.code)).toArray.size = (codesL k).length := by simp [hlen]
    generalize ((takenC k 40).map (·.code)).toArray = D0 at *
    rw [hlen, ← hsz] at hsd0
    have hc := stable_calls g cap D0 W (by rw [hsz]; exact h0) (by rw [hsz]; exact Nat.le_trans (codesL_le k) (by decide)) hH hgl
    have hds : (Sort.insertionSort (ltOf cmpW) D0 0 D0.size).size = D0.size := by rw [← Array.length_toList, hsd0, hsz]
    have hsd := hsd0
    generalize Sort.insertionSort (ltOf cmpW) D0 0 D0.size = D at *
    rw [hsz] at hc
    refine hc.mono ?_
    rintro e w' ⟨rfl, n, os, rfl⟩
    have hH2 := holdsK_sortWorldK_c encC 5 W g 0 _ D n os hH hgl hds
    rw [← hsd]
    have hgl2 : g < (sortWorldK encC 5 W g 0 n D os).heap.size := by simp [sortWorldK, putRowK]; omega
    exact ⟨rfl, rowC_of_holds hH2 hgl2, fun w0 hb hle => sorted_below D hb hg hle⟩
set_option maxRecDepth 100000 in
set_option maxHeartbeats 4000000 in
theorem Codes_calls (k : Int) (w : World) : Calls Tryd.prog 20 #[.int .i64 k] w fun e w' => ∃ v : Value, e = .returned v ∧ Kd.R (Kd.int .i64) 3 w' w.heap.size (fun _ => True) v (codesL k) ∧ Below w.heap.size w w' := by
  go_enter Tryd.func20, Tryd.ntmps20
  go_wp2_with (go_at_call 75; refine (table_calls _).mono ?_; rintro e w1 ⟨v, rfl, hR, hb1⟩; obtain ⟨g, cap, hv, hg, hgl, hcells⟩ := table_cells hR; rw [hv])
  have Hc := Lib.hid hcells
  clear hcells hR hv
  go_loopw [3, 11] (fun v i wr => ∃ j : Nat, j ≤ 40 ∧ i = .int .i64 j ∧ Hid (Kd.R kC 34 wr w1.heap.size (fun _ => True) v (takenC k j)) ∧ Below w1.heap.size w1 wr) (fun _ i _ => 40 - (intOf i).toNat)
  case atStart => exact ⟨0, by omega, rfl, Lib.hid (Kd.R_nil _ _ _ _ _), Below.refl _ _⟩
  case round =>
    obtain ⟨j, hj, rfl, HR, hbw⟩ := hrel
    by_cases hlt : j < 40
    · obtain ⟨h0, h1, h2, h3, h4⟩ := Hc.out j hlt
      have k0 := pw_cell_below hbw h0
      have k1 := pw_cell_below hbw h1
      have k2 := pw_cell_below hbw h2
      have k3 := pw_cell_below hbw h3
      have k4 := pw_cell_below hbw h4
      clear h0 h1 h2 h3 h4
      by_cases hk : (tc j).kind = k
      · have hkb : ((tc j).kind == k) = true := beq_iff_eq.2 hk
        have HK := Lib.hid hk
        clear hk
        have hlen : (takenC k j).length ≤ 40 := Nat.le_trans (List.length_filter_le _ _) (by rw [List.length_take]; omega)
        go_wp2_with (at_builtin; refine Kd.R_append kC (w0 := w1) (W := wr.alloc _) w1.heap.size rfl (.tmp 19) (.tmp 21) 90 34 (.agg #[(.int .i64 0), (.int .i64 0), (.int .i64 0), (.bool false), (.bool false)]) 32 rfl Tryd.underlying90 infoC rfl (by decide) (by omega) _ (takenC k j) (tc j) (cellsC (tc j)) (fun _ => True) (fun _ => False) rfl (slice_next wr _) ?c1 (fun _ h => h.elim) (fun _ _ => trivial) ?c2 ?c3 ?c4 ?c5 ?_; (case c1 => exact kC_mkM _ _ _ _); (case c2 => exact Kd.R_below HR.out (below_new _ _)); (case c3 => exact hbw.alloc hbw.size _); (case c4 => have := hbw.size; simp; omega); (case c5 => omega); intro v1 w2 hR2 hB2 _ _; have HR2 := Lib.hid hR2; have HB2 := Lib.hid hB2; clear hR2 hB2)
        go_roundw
        case rel => exact ⟨j + 1, by omega, by go_num, Lib.hid (by rw [takenC_succ k j hlt, if_pos HK.out]; exact HR2.out), HB2.out⟩
        case measure => simp [intOf]; omega
      · have hkb : ((tc j).kind == k) = false := beq_eq_false_iff_ne.2 hk
        have HK := Lib.hid hk
        clear hk
        go_wp2
        go_roundw
        case rel => exact ⟨j + 1, by omega, by go_num, Lib.hid (by rw [takenC_succ k j hlt, if_neg HK.out]; exact Kd.R_below HR.out (below_new _ _)), hbw.alloc hbw.size _⟩
        case measure => simp [intOf]; omega
    · obtain rfl : j = 40 := by omega
      obtain ⟨A2, c2, hv2, hst⟩ := stable_all k _ _ _ HR.out
      subst hv2
      go_wp2_with (go_at_call 76; refine hst.mono ?_; rintro e w2 ⟨rfl, hrow, hbel⟩; have HB2 := hbel _ hbw hbw.size; have HROW := Lib.hid hrow; clear hrow hbel)
      clear HR hst
      have hle := codesL_le k
      go_loopw [6, 28] (fun v i wr => ∃ j : Nat, j ≤ (codesL k).length ∧ i = .int .i64 j ∧ Hid (Kd.R (Kd.int .i64) 3 wr w2.heap.size (fun _ => True) v ((codesL k).take j)) ∧ Below w2.heap.size w2 wr) (fun _ i _ => (codesL k).length - (intOf i).toNat)
      case atStart => exact ⟨0, by omega, rfl, Lib.hid (Kd.R_nil _ _ _ _ _), Below.refl _ _⟩
      case round =>
        obtain ⟨j, hj, rfl, HR, hbr⟩ := hrel
        by_cases hlt : j < (codesL k).length
        · obtain ⟨g2, rfl, hg2, h0, h1, h2, h3, h4⟩ := HROW.out j hlt
          have k0 := pw_cell_below hbr h0
          have k1 := pw_cell_below hbr h1
          have k2 := pw_cell_below hbr h2
          have k3 := pw_cell_below hbr h3
          have k4 := pw_cell_below hbr h4
          clear h0 h1 h2 h3 h4
          have hlen : ((codesL k).take j).length ≤ 3 := Nat.le_trans (List.length_take_le _ _) (by omega)
          have hts : (codesL k).take (j + 1) = (codesL k).take j ++ [(codesL k)[j]] := List.take_succ_eq_append_getElem hlt
          have HTS := Lib.hid hts
          clear hts
          go_wp2_with (at_builtin; refine Kd.R_append (Kd.int .i64) (w0 := w2) (W := wr.alloc _) w2.heap.size rfl (.tmp 32) (.tmp 35) 28 3 (.int .i64 0) 8 rfl Tryd.underlying28 infoInt rfl (by decide) (by omega) _ ((codesL k).take j) (codesL k)[j] [.int .i64 (codesL k)[j]] (fun _ => True) (fun _ => False) rfl (slice_next wr _) ?c1 (fun _ h => h.elim) (fun _ _ => trivial) ?c2 ?c3 ?c4 ?c5 ?_; (case c1 => rfl); (case c2 => exact Kd.R_below HR.out (below_new _ _)); (case c3 => exact hbr.alloc hbr.size _); (case c4 => have := hbr.size; simp; omega); (case c5 => omega); intro v1 w3 hR3 hB3 _ _; have HR3 := Lib.hid hR3; have HB3 := Lib.hid hB3; clear hR3 hB3)
          go_roundw
          case rel => exact ⟨j + 1, by omega, by go_num, Lib.hid (by rw [HTS.out]; exact HR3.out), HB3.out⟩
          case measure => simp [intOf]; omega
        · obtain rfl : j = (codesL k).length := by omega
          have hR := HR.out
          rw [List.take_length] at hR
          go_wp2
          go_ret
          exact ⟨_, rfl, Kd.R_lower hR (Nat.le_trans hb1.size HB2.size), below_step (below_step hb1 HB2) hbr⟩
end Go.Proofs.YtekpofpgkokoiaaDoor.M
set_option linter.unusedVariables false
set_option linter.unusedSimpArgs false
namespace Go.Proofs.YtekpofpgkokoiaaDoor.M
open Go.RowKit Go.Proofs.YtekpofpgkokoiaaDoorW.PrintWords
set_option maxRecDepth 100000 in
set_option maxHeartbeats 2000000 in
theorem says_calls (c1 c2 c3 : Int) (c4 c5 : Bool) (k n : Int) (s : ByteArray) (items : List Vl) (A : Option Addr) (l cp : Nat) (w : World) (h0 : 0 ≤ n) (h1 : n < 18446744073709551616) (hs : s.size ≤ 9223372036854775807) :
    Calls Tryd.prog 86 #[.agg #[.int .i64 c1, .int .i64 c2, .int .i64 c3, .bool c4, .bool c5], .agg #[.int .i64 k, .int .u64 n, .string s, .slice A l cp]] w fun e w' => e = .returned (.bool (saysP ⟨c1, c2, c3, c4, c5⟩ ⟨k, n, s, items⟩)) ∧ Below w.heap.size w w' := by
  go_enter Tryd.func86, Tryd.ntmps86
  go_wp2_with (first | (go_at_call 79; refine (bits_calls _ _).mono ?_; rintro e w1 ⟨rfl, rfl⟩) | (go_at_call 80; refine (fitsBits_calls _ _ _ _ h0 h1 (by unfold okB; cases bitsS c2 <;> simp)).mono ?_; rintro e w1 ⟨rfl, rfl⟩))
  all_goals
    go_ret
    refine ⟨ret_b ?_, below_alloc (below_new _ _) _⟩
    simp only [saysP]
    grind
theorem saysP_eta (c : Ct) (q : Int) (v : Vl) (h : c.kind = q) : saysP ⟨c.code, q, c.width, c.sized, c.items⟩ v = saysP c v := by subst h; rfl
set_option maxRecDepth 100000 in
set_option maxHeartbeats 2000000 in
theorem Fits_calls (code : Int) (k n : Int) (s : ByteArray) (items : List Vl) (A : Option Addr) (cp : Nat) (w : World) (h0 : 0 ≤ n) (h1 : n < 18446744073709551616) (hs : s.size ≤ 9223372036854775807) (hT : Tb w) (hl : items.length ≤ 9223372036854775807) :
    Calls Tryd.prog 24 #[.int .i64 code, .agg #[.int .i64 k, .int .u64 n, .string s, .slice A items.length cp]] w fun e w' => e = .returned (.bool (fitsP code ⟨k, n, s, items⟩)) ∧ Below w.heap.size w w' := by
  go_enter Tryd.func24, Tryd.ntmps24
  go_wp2_with (first | (go_at_call 23; refine (Of_calls _ _).mono ?_; rintro e w1 ⟨rfl, hb1⟩; have HB1 := below_step (below_new _ _) hb1; obtain ⟨hc1, hf1⟩ := kept_cells hb1; have hz1 := new_lt hb1) | (go_at_call 21; refine (Check_calls _ _ _ _ _ _ _ h0 h1 hs ((hT.below HB1).alloc _) hl).mono ?_; rintro e w2 ⟨rfl, hb2⟩; have HB2 := below_step (below_alloc HB1 _) hb2; obtain ⟨hc2, hf2⟩ := kept_cells hb2; have hz2 := new_lt hb2; have hz3 := Nat.lt_trans hz1 hz2) | (go_at_call 86; refine (says_calls _ _ _ _ _ _ _ _ items _ _ _ _ h0 h1 hs).mono ?_; rintro e w3 ⟨rfl, hb3⟩))
  all_goals
    go_ret
    refine ⟨ret_b ?_, by first | exact below_step HB2 hb3 | exact HB2 | exact below_alloc HB1 _⟩
    simp only [fitsP]
    grind [saysP_eta]
theorem find_drop {p : Int → Bool} {l : List Int} {j : Nat} (h : j < l.length) : (l.drop j).find? p = if p l[j] = true then some l[j] else (l.drop (j + 1)).find? p := by
  rw [List.drop_eq_getElem_cons h, List.find?_cons]
  cases p l[j] <;> rfl
theorem leastP_bad {v : Vl} (h : ¬ checkP v = 0) : leastP v = (0, checkP v) := by unfold leastP; rw [if_neg h]
theorem leastP_some {v : Vl} {c : Int} (h : checkP v = 0) (hf : (codesL v.kind).find? (fun c => fitsP c v) = some c) : leastP v = (c, 0) := by unfold leastP; rw [if_pos h, hf]
theorem leastP_none {v : Vl} (h : checkP v = 0) (hf : (codesL v.kind).find? (fun c => fitsP c v) = none) : leastP v = (0, 2) := by unfold leastP; rw [if_pos h, hf]
theorem adc_block (a : Addr) (j : Nat) : (a.add j).block = a.block := by unfold Addr.add; split <;> rfl
theorem nums_at {w : World} {base : Nat} {ok : Nat → Prop} {v : Value} {xs : List Int} {k : IntKind} {e : Nat} (h : Kd.R (Kd.int k) e w base ok v xs) :
    ∃ A c, v = .slice A xs.length c ∧ ∀ j, (hj : j < xs.length) → ∃ ad : Addr, A = some ad ∧ ad.block < w.heap.size ∧ w.cell? (ad.add j) = some (.int k xs[j]) := by
  obtain ⟨A, c, e, hl, hC⟩ := Kd.R_reads h
  refine ⟨A, c, e, fun j hj => ?_⟩
  obtain ⟨_, hA⟩ := Kd.reads_of_C (d := 0) hC |>.2
  obtain ⟨ad, ha, hc⟩ := hA (by omega)
  have h1 := hc j hj
  rw [List.getD_eq_getElem?_getD, List.getElem?_eq_getElem hj] at h1
  exact ⟨ad, ha, adc_block ad j ▸ World.block_lt_of_cell? w _ h1, h1⟩
set_option maxRecDepth 100000 in
set_option maxHeartbeats 2000000 in
theorem Least_calls (k n : Int) (s : ByteArray) (items : List Vl) (A : Option Addr) (cp : Nat) (w : World) (h0 : 0 ≤ n) (h1 : n < 18446744073709551616) (hs : s.size ≤ 9223372036854775807) (hT : Tb w) (hl : items.length ≤ 9223372036854775807) :
    Calls Tryd.prog 41 #[.agg #[.int .i64 k, .int .u64 n, .string s, .slice A items.length cp]] w fun e w' => e = .returned (.tuple #[.int .i64 (leastP ⟨k, n, s, items⟩).1, .int .i64 (leastP ⟨k, n, s, items⟩).2]) ∧ Below w.heap.size w w' := by
  by_cases hck : checkP ⟨k, n, s, items⟩ = 0
  · have HC := Lib.hid hck
    clear hck
    go_enter Tryd.func41, Tryd.ntmps41
    go_wp2_with (first | (go_at_call 21; refine (Check_calls _ _ _ _ _ _ _ h0 h1 hs (hT.alloc _) hl).mono ?_; rw [HC.out]; rintro e w1 ⟨rfl, hb1⟩; have HB1 := below_step (below_new _ _) hb1; obtain ⟨hc1, hf1⟩ := kept_cells hb1; have hz1 := new_lt hb1) | (go_at_call 20; refine (Codes_calls _ _).mono ?_; rintro e w2 ⟨v, rfl, hR, hb2⟩; have HB2 := below_step HB1 hb2; obtain ⟨hc2, hf2⟩ := kept_cells hb2; have hz2 := Nat.lt_of_lt_of_le hz1 hb2.size; obtain ⟨A', c', hv, hat⟩ := nums_at hR; rw [hv]))
    have hle := codesL_le k
    have HF0 : (codesL k).find? (fun c => fitsP c ⟨k, n, s, items⟩) = ((codesL k).drop 0).find? (fun c => fitsP c ⟨k, n, s, items⟩) := rfl
    go_loopw [6, 16] (fun _ i wr => ∃ j : Nat, j ≤ (codesL k).length ∧ i = .int .i64 j ∧ Below w2.heap.size w2 wr ∧ Hid ((codesL k).find? (fun c => fitsP c ⟨k, n, s, items⟩) = ((codesL k).drop j).find? (fun c => fitsP c ⟨k, n, s, items⟩))) (fun _ i _ => (codesL k).length - (intOf i).toNat)
    case atStart => exact ⟨0, Nat.zero_le _, rfl, Below.refl _ _, Lib.hid HF0⟩
    case round =>
      obtain ⟨j, hj, rfl, hbr, HF⟩ := hrel
      clear HF0
      obtain ⟨hcr, hfr⟩ := kept_cells hbr
      by_cases hlt : j < (codesL k).length
      · obtain ⟨ad, rfl, had, hca⟩ := hat j hlt
        have hcell : wr.cell? (ad.add j) = some (.int .i64 (codesL k)[j]) := (hbr.cell (by rw [adc_block]; exact had)).trans hca
        go_wp2_with (go_at_call 24; refine (Fits_calls _ _ _ _ _ _ _ _ h0 h1 hs (hT.below (below_step HB2 hbr)) hl).mono ?_; rintro e w3 ⟨rfl, hb3⟩; have HB3 := below_step hbr hb3)
        · go_ret2
          have hfit : fitsP (codesL k)[j] ⟨k, n, s, items⟩ = true := by assumption
          have hfin := leastP_some HC.out (HF.out.trans ((find_drop hlt).trans (if_pos hfit)))
          exact ⟨ret_ii (by rw [hfin]) (by rw [hfin]), below_step HB2 HB3⟩
        · go_roundw
          case rel =>
            have hfit : fitsP (codesL k)[j] ⟨k, n, s, items⟩ = false := by assumption
            exact ⟨j + 1, by omega, by go_num, HB3, Lib.hid (HF.out.trans ((find_drop hlt).trans (if_neg (by rw [hfit]; simp))))⟩
          case measure => simp [intOf]; omega
      · go_wp2
        go_ret2
        have hfin := leastP_none HC.out (HF.out.trans (by rw [List.drop_eq_nil_of_le (by omega)]; rfl))
        exact ⟨ret_ii (by rw [hfin]) (by rw [hfin]), below_step HB2 hbr⟩
  · rw [leastP_bad hck]
    have HC := Lib.hid hck
    clear hck
    go_enter Tryd.func41, Tryd.ntmps41
    go_wp2_with (first | (go_at_call 21; refine (Check_calls _ _ _ _ _ _ _ h0 h1 hs (hT.alloc _) hl).mono ?_; rintro e w1 ⟨rfl, hb1⟩; have hne := HC.out))
    go_ret2
    exact ⟨rfl, below_step (below_new _ _) hb1⟩
end Go.Proofs.YtekpofpgkokoiaaDoor.M
set_option linter.unusedVariables false
set_option linter.unusedSimpArgs false
namespace Go.Proofs.YtekpofpgkokoiaaDoor.M
open Go.RowKit Go.Proofs.YtekpofpgkokoiaaDoorW.PrintWords
theorem conv_new (W : World) (xs : List Int) (n : Nat) (hn : xs.length = n) (C : Array Value) (hC : C = (nums .u8 xs).toArray) :
    (convert 73 9 (.slice (some ⟨W.heap.size, 0, none⟩) n n)).run Tryd.prog (W.alloc (.cells C 5)) = .ok (.string (strOfNums xs)) (W.alloc (.cells C 5)) := by
  subst hC
  refine run_convert_bytes_arg (P := Tryd.prog) _ 73 5 Tryd.underlying73 Tryd.underlying5 W.heap.size 0 n n xs hn (fun i hi => ?_) 9 Tryd.underlying9
  rw [blk_cell (heap_alloc_new W _) (0 + i), Nat.zero_add]
  simp [nums, List.getElem?_eq_getElem (show i < xs.length by omega), List.getD_eq_getElem?_getD]
theorem be_byte (n : Int) (h0 : 0 ≤ n) (m : Nat) : UInt8.ofNat ((n / (m : Int)) % 256).toNat = UInt8.ofNat (n.toNat / m % 256) := by
  obtain ⟨k, rfl⟩ := Int.eq_ofNat_of_zero_le h0
  congr 1
set_option maxRecDepth 100000 in
set_option maxHeartbeats 2000000 in
theorem oput_calls (n sz : Int) (w : World) (h0 : 0 ≤ n) (h1 : n < 18446744073709551616) (hsz : sz = 0 ∨ sz = 1 ∨ sz = 2 ∨ sz = 4 ∨ sz = 8) : Calls Tryd.prog 132 #[.int .u64 n, .int .i64 sz] w fun e w' => e = .returned (.string (beB n sz)) ∧ Below w.heap.size w w' := by
  rcases hsz with rfl | rfl | rfl | rfl | rfl
  · go_enter Tryd.func132, Tryd.ntmps132
    go_wp2
    go_ret
    exact ⟨rfl, Below.refl _ _⟩
  · have hmk : ∀ w, (Instr.makeSlice 73 (.int .i64 1) (.int .i64 1)).run Tryd.prog w = .ok (.slice (some ⟨w.heap.size, 0, none⟩) 1 1) (w.alloc (.cells #[.int .u8 0] 5)) := fun _ => by kernel_rfl
    have hcv : ∀ (W : World) (a : Int), _ := fun W a => conv_new W [a] 1 rfl #[.int .u8 a] rfl
    have hmin : min (1 : Int) 16 = 1 := by decide
    go_enter Tryd.func132, Tryd.ntmps132
    go_wp2
    refine wp_loop_rounds 2 ?_
    iterate 2 (rw [rounds_succ]; go_wp2)
    go_ret
    refine ⟨ret_s ?_, below_new _ _⟩
    have b0 := be_byte n h0 1
    simp [strOfNums, beB, beL] at b0 ⊢
    exact b0
  · have hmk : ∀ w, (Instr.makeSlice 73 (.int .i64 2) (.int .i64 2)).run Tryd.prog w = .ok (.slice (some ⟨w.heap.size, 0, none⟩) 2 2) (w.alloc (.cells #[.int .u8 0, .int .u8 0] 5)) := fun _ => by kernel_rfl
    have hcv : ∀ (W : World) (a b : Int), _ := fun W a b => conv_new W [a, b] 2 rfl #[.int .u8 a, .int .u8 b] rfl
    have hmin : min (2 : Int) 16 = 2 := by decide
    go_enter Tryd.func132, Tryd.ntmps132
    go_wp2
    refine wp_loop_rounds 3 ?_
    iterate 3 (rw [rounds_succ]; go_wp2)
    go_ret
    refine ⟨ret_s ?_, below_new _ _⟩
    have b0 := be_byte n h0 1
    have b1 := be_byte n h0 256
    simp [strOfNums, beB, beL, Nat.div_div_eq_div_mul] at b0 b1 ⊢
    exact ⟨b1, b0⟩
  · have hmk : ∀ w, (Instr.makeSlice 73 (.int .i64 4) (.int .i64 4)).run Tryd.prog w = .ok (.slice (some ⟨w.heap.size, 0, none⟩) 4 4) (w.alloc (.cells #[.int .u8 0, .int .u8 0, .int .u8 0, .int .u8 0] 5)) := fun _ => by kernel_rfl
    have hcv : ∀ (W : World) (a b c d : Int), _ := fun W a b c d => conv_new W [a, b, c, d] 4 rfl #[.int .u8 a, .int .u8 b, .int .u8 c, .int .u8 d] rfl
    have hmin : min (4 : Int) 16 = 4 := by decide
    go_enter Tryd.func132, Tryd.ntmps132
    go_wp2
    refine wp_loop_rounds 5 ?_
    iterate 5 (rw [rounds_succ]; go_wp2)
    go_ret
    refine ⟨ret_s ?_, below_new _ _⟩
    have b0 := be_byte n h0 1
    have b1 := be_byte n h0 256
    have b2 := be_byte n h0 65536
    have b3 := be_byte n h0 16777216
    simp [strOfNums, beB, beL, Nat.div_div_eq_div_mul] at b0 b1 b2 b3 ⊢
    exact ⟨b3, b2, b1, b0⟩
  · have hmk : ∀ w, (Instr.makeSlice 73 (.int .i64 8) (.int .i64 8)).run Tryd.prog w = .ok (.slice (some ⟨w.heap.size, 0, none⟩) 8 8) (w.alloc (.cells #[.int .u8 0, .int .u8 0, .int .u8 0, .int .u8 0, .int .u8 0, .int .u8 0, .int .u8 0, .int .u8 0] 5)) := fun _ => by kernel_rfl
    have hcv : ∀ (W : World) (a b c d e f g h : Int), _ := fun W a b c d e f g h => conv_new W [a, b, c, d, e, f, g, h] 8 rfl #[.int .u8 a, .int .u8 b, .int .u8 c, .int .u8 d, .int .u8 e, .int .u8 f, .int .u8 g, .int .u8 h] rfl
    have hmin : min (8 : Int) 16 = 8 := by decide
    go_enter Tryd.func132, Tryd.ntmps132
    go_wp2
    refine wp_loop_rounds 9 ?_
    iterate 9 (rw [rounds_succ]; go_wp2)
    go_ret
    refine ⟨ret_s ?_, below_new _ _⟩
    have b0 := be_byte n h0 1
    have b1 := be_byte n h0 256
    have b2 := be_byte n h0 65536
    have b3 := be_byte n h0 16777216
    have b4 := be_byte n h0 4294967296
    have b5 := be_byte n h0 1099511627776
    have b6 := be_byte n h0 281474976710656
    have b7 := be_byte n h0 72057594037927936
    rw [show n / ((72057594037927936 : Nat) : Int) % 256 = n / 72057594037927936 by omega] at b7
    simp [strOfNums, beB, beL, Nat.div_div_eq_div_mul] at b0 b1 b2 b3 b4 b5 b6 b7 ⊢
    exact ⟨b7, b6, b5, b4, b3, b2, b1, b0⟩
end Go.Proofs.YtekpofpgkokoiaaDoor.M
set_option linter.unusedVariables false
set_option linter.unusedSimpArgs false
namespace Go.Proofs.YtekpofpgkokoiaaDoor.M
open Go.RowKit Go.Proofs.YtekpofpgkokoiaaDoorW.PrintWords
theorem push_set (h : Array Obj) (o o' : Obj) : (h.push o).setIfInBounds h.size o' = h.push o' := by
  apply Array.ext_getElem?
  intro i
  rw [Array.getElem?_setIfInBounds, Array.getElem?_push, Array.getElem?_push, Array.size_push]
  by_cases h' : h.size = i
  · subst h'; simp
  · simp [h', Ne.symm h']
theorem ins_int (mty kt et : TypeId) (hm : Tryd.prog.underlying mty = some (.map kt et)) (hk : Tryd.prog.underlying kt = some (.int .i64)) (es : Array MapEntry) (n : Nat) (c : Int) (val : Value)
    (hf : Instr.findNow (.int .i64) (.int .i64 c) es.toList 0 = some none) (W : World) (r : Nat) (hr : r = W.heap.size) :
    (Instr.mapUpdate mty (.map (some r)) (.int .i64 c) val).run Tryd.prog (W.alloc (.map es n)) = .ok () (W.alloc (.map (es.push ⟨.int .i64 c, val, n⟩) (n + 1))) := by
  subst hr
  have hb : (W.alloc (.map es n)).heap[W.heap.size]? = some (.map es n) := blk_new W _
  have hc : (Instr.checkKey false 10000 kt (.int .i64 c)).run Tryd.prog (W.alloc (.map es n)) = .ok () (W.alloc (.map es n)) := MapKept.run_checkKey (k := .int .i64 c) hk (by simp [MapKept.IsKey]) false 9999
  have hE : (W.alloc (.map es n)).heap.setIfInBounds W.heap.size (.map (es.push ⟨.int .i64 c, val, n⟩) (n + 1)) = W.heap.push (.map (es.push ⟨.int .i64 c, val, n⟩) (n + 1)) := push_set _ _ _
  simp [Instr.mapUpdate, run_underlying hm, MapKept.run_getObj_map hb, hc, MapKept.run_findKey hk hf, MapKept.run_setObj_map _ hb, Result.andThen, hE]
  rfl
theorem look_int (mty kt et : TypeId) (hm : Tryd.prog.underlying mty = some (.map kt et)) (hk : Tryd.prog.underlying kt = some (.int .i64)) (es : Array MapEntry) (n : Nat) (c : Int) (i : Nat) (val : Value)
    (hf : Instr.findNow (.int .i64) (.int .i64 c) es.toList 0 = some (some (i, val))) (W : World) (r : Nat) (hr : r = W.heap.size) :
    (Instr.lookup mty (.map (some r)) (.int .i64 c) false).run Tryd.prog (W.alloc (.map es n)) = .ok val (W.alloc (.map es n)) := by
  subst hr
  have hb : (W.alloc (.map es n)).heap[W.heap.size]? = some (.map es n) := blk_new W _
  have hc : ∀ b, (Instr.checkKey b 10000 kt (.int .i64 c)).run Tryd.prog (W.alloc (.map es n)) = .ok () (W.alloc (.map es n)) := fun b => MapKept.run_checkKey (k := .int .i64 c) hk (by simp [MapKept.IsKey]) b 9999
  simp [Instr.lookup, run_underlying hm, MapKept.run_getObj_map hb, hc, MapKept.run_findKey hk hf, Result.andThen]
theorem width_cases (code : Int) : (ofC code).width = 0 ∨ (ofC code).width = 1 ∨ (ofC code).width = 2 ∨ (ofC code).width = 4 ∨ (ofC code).width = 8 ∨ (ofC code).width = 16 := by
  have h : ∀ c ∈ tableL, c.width = 0 ∨ c.width = 1 ∨ c.width = 2 ∨ c.width = 4 ∨ c.width = 8 ∨ c.width = 16 := by decide
  unfold ofC
  cases ho : ofO code with
  | none => exact .inl rfl
  | some c => exact h c (List.mem_of_find?_eq_some ho)
theorem wrap_u64 {n : Int} (h0 : 0 ≤ n) (h1 : n < 18446744073709551616) : IntKind.u64.wrap n = n := IntWalk.u64_in n ⟨h0, by omega⟩
section
variable (c1 c2 c3 : Int) (c4 c5 : Bool) (k n : Int) (s : ByteArray) (A : Option Addr) (l cp : Nat) (w : World)
set_option maxHeartbeats 2000000 in
theorem none_calls : Calls Tryd.prog 88 #[.agg #[.int .i64 c1, .int .i64 c2, .int .i64 c3, .bool c4, .bool c5, .int .i64 k, .int .u64 n, .string s, .slice A l cp]] w fun e w' => e = .returned (.string ⟨#[]⟩) ∧ Below w.heap.size w w' := by
  go_enter Tryd.func88, Tryd.ntmps88
  go_wp2
  go_ret
  exact ⟨rfl, by first | exact Below.refl _ _ | exact below_new _ _⟩
set_option maxHeartbeats 2000000 in
theorem bytes_calls : Calls Tryd.prog 90 #[.agg #[.int .i64 c1, .int .i64 c2, .int .i64 c3, .bool c4, .bool c5, .int .i64 k, .int .u64 n, .string s, .slice A l cp]] w fun e w' => e = .returned (.string s) ∧ Below w.heap.size w w' := by
  go_enter Tryd.func90, Tryd.ntmps90
  go_wp2
  go_ret
  exact ⟨rfl, below_new _ _⟩
set_option maxHeartbeats 2000000 in
theorem number_calls (h0 : 0 ≤ n) (h1 : n < 18446744073709551616) (hc : c3 = 0 ∨ c3 = 1 ∨ c3 = 2 ∨ c3 = 4 ∨ c3 = 8) : Calls Tryd.prog 89 #[.agg #[.int .i64 c1, .int .i64 c2, .int .i64 c3, .bool c4, .bool c5, .int .i64 k, .int .u64 n, .string s, .slice A l cp]] w fun e w' => e = .returned (.string (beB n c3)) ∧ Below w.heap.size w w' := by
  go_enter Tryd.func89, Tryd.ntmps89
  go_wp2_with (go_at_call 132; refine (oput_calls _ _ _ h0 h1 hc).mono ?_; rintro e w1 ⟨rfl, hb⟩)
  go_ret
  exact ⟨rfl, below_step (below_new _ _) hb⟩
set_option maxRecDepth 100000 in
set_option maxHeartbeats 2000000 in
theorem sized_calls (hs : s.size ≤ 140737488351232) (hc : c3 = 0 ∨ c3 = 1 ∨ c3 = 2 ∨ c3 = 4 ∨ c3 = 8) : Calls Tryd.prog 87 #[.agg #[.int .i64 c1, .int .i64 c2, .int .i64 c3, .bool c4, .bool c5, .int .i64 k, .int .u64 n, .string s, .slice A l cp]] w fun e w' => e = .returned (.string (beB s.size c3 ++ s)) ∧ Below w.heap.size w w' := by
  have hs1 : (s.size : Int) < 18446744073709551616 := by omega
  have hwr : IntKind.u64.wrap (s.size : Int) = (s.size : Int) := wrap_u64 (by omega) hs1
  have hcat : (beB s.size c3).size + s.size ≤ 9223372036854775807 := by rw [beB_size]; omega
  have HO := fun W => oput_calls s.size c3 W (by omega) hs1 hc
  clear hs1 hs hc
  generalize beB s.size c3 = B at *
  have hcat' : ¬ 9223372036854775807 < B.size + s.size := by omega
  go_enter Tryd.func87, Tryd.ntmps87
  go_wp2
  go_region_held3 (fun w' => w'.cell? ⟨w.heap.size, 7, none⟩ = some (.string s) ∧ w'.cell? ⟨w.heap.size, 2, none⟩ = some (.int .i64 c3)) (go_keep) ((go_at_call 132; refine (HO _).mono ?_; rintro e w1 ⟨rfl, hb⟩; obtain ⟨q7, q2⟩ : World.cell? _ ⟨w.heap.size, 7, none⟩ = some (.string s) ∧ World.cell? _ ⟨w.heap.size, 2, none⟩ = some (.int .i64 c3) := (by assumption); have k7 := pw_cell_below hb q7; have k2 := pw_cell_below hb q2; clear q7 q2))
  all_goals
    go_wp2
    go_ret
    exact ⟨rfl, below_step (below_drew (below_new _ _)) hb⟩
end
theorem putP_bad {code : Int} {v : Vl} (h : ¬ checkP v = 0) : putP code v = (⟨#[]⟩, checkP v) := by unfold putP; rw [if_neg h]
theorem putP_unfit {code : Int} {v : Vl} (h : checkP v = 0) (hf : fitsP code v = false) : putP code v = (⟨#[]⟩, 2) := by unfold putP; rw [if_pos h, if_neg (by rw [hf]; simp)]
theorem putP_sized {code : Int} {v : Vl} (h : checkP v = 0) (hf : fitsP code v = true) (hs : (ofC code).sized = true) : putP code v = (beB v.text.size (ofC code).width ++ v.text, 0) := by unfold putP; rw [if_pos h, if_pos hf, if_pos hs]
theorem putP_bytes {code : Int} {v : Vl} (h : checkP v = 0) (hf : fitsP code v = true) (hs : (ofC code).sized = false) (hw : (ofC code).width = 16) : putP code v = (v.text, 0) := by unfold putP; rw [if_pos h, if_pos hf, if_neg (by rw [hs]; simp), if_pos hw]
theorem putP_num {code : Int} {v : Vl} (h : checkP v = 0) (hf : fitsP code v = true) (hs : (ofC code).sized = false) (hw : ¬ (ofC code).width = 16) : putP code v = (beB v.n (ofC code).width, 0) := by unfold putP; rw [if_pos h, if_pos hf, if_neg (by rw [hs]; simp), if_neg hw]
theorem sized_width {code : Int} (h : (ofC code).sized = true) : (ofC code).width = 0 ∨ (ofC code).width = 1 ∨ (ofC code).width = 2 ∨ (ofC code).width = 4 ∨ (ofC code).width = 8 := by
  have h' : ∀ c ∈ tableL, c.sized = true → c.width = 1 ∨ c.width = 4 := by decide
  unfold ofC at h ⊢
  cases ho : ofO code with
  | none => exact .inl rfl
  | some c =>
    rw [ho] at h
    rcases h' c (List.mem_of_find?_eq_some ho) h with e | e
    · exact .inr (.inl e)
    · exact .inr (.inr (.inr (.inl e)))
set_option maxRecDepth 100000 in
set_option maxHeartbeats 4000000 in
theorem Put_calls (code : Int) (k n : Int) (s : ByteArray) (items : List Vl) (A : Option Addr) (cp : Nat) (w : World) (h0 : 0 ≤ n) (h1 : n < 18446744073709551616) (hs : s.size ≤ 140737488351232) (hT : Tb w) (hl : items.length ≤ 9223372036854775807) :
    Calls Tryd.prog 25 #[.int .i64 code, .agg #[.int .i64 k, .int .u64 n, .string s, .slice A items.length cp]] w fun e w' => e = .returned (.tuple #[.string (putP code ⟨k, n, s, items⟩).1, .int .i64 (putP code ⟨k, n, s, items⟩).2]) ∧ Below w.heap.size w w' := by
  have hs' : s.size ≤ 9223372036854775807 := by omega
  by_cases hck : checkP ⟨k, n, s, items⟩ = 0
  · by_cases hfit : fitsP code ⟨k, n, s, items⟩ = true
    · by_cases hsz : (ofC code).sized = true
      · rw [putP_sized hck hfit hsz]
        have hw := sized_width hsz
        have HC := Lib.hid hck
        have HF := Lib.hid hfit
        have HW := Lib.hid hw
        clear hck hfit hw
        go_enter Tryd.func25, Tryd.ntmps25
        go_wp2_with (first | (go_at_call 21; refine (Check_calls _ _ _ _ _ _ _ h0 h1 hs' (hT.alloc _) hl).mono ?_; rw [HC.out]; rintro e w1 ⟨rfl, hb1⟩; have HB1 := below_step (below_new _ _) hb1; obtain ⟨hc1, hf1⟩ := kept_cells hb1; have hz1 := new_lt hb1) | (go_at_call 24; refine (Fits_calls _ _ _ _ _ _ _ _ h0 h1 hs' (hT.below HB1) hl).mono ?_; rw [HF.out]; rintro e w2 ⟨rfl, hb2⟩; have HB2 := below_step HB1 hb2; obtain ⟨hc2, hf2⟩ := kept_cells hb2; have hz2 := Nat.lt_of_lt_of_le hz1 hb2.size) | (go_at_call 23; refine (Of_calls _ _).mono ?_; rintro e w3 ⟨rfl, hb3⟩; have HB3 := below_step HB2 hb3; obtain ⟨hc3, hf3⟩ := kept_cells hb3; have hz3 := Nat.lt_of_lt_of_le hz2 hb3.size) | (go_at_call 87; refine (sized_calls _ _ _ _ _ _ _ _ _ _ _ _ hs HW.out).mono ?_; rintro e w4 ⟨rfl, hb4⟩))
        go_ret2
        exact ⟨rfl, below_step (below_alloc HB3 _) hb4⟩
      · simp only [Bool.not_eq_true] at hsz
        have hmm := @run_makeMap Tryd.prog
        have hi0 := ins_int 106 _ _ Tryd.underlying106 Tryd.underlying3 #[] 0 0 (.func (.func 88) #[] #[]) rfl
        have hi1 := ins_int 106 _ _ Tryd.underlying106 Tryd.underlying3 #[⟨.int .i64 0, .func (.func 88) #[] #[], 0⟩] 1 1 (.func (.func 89) #[] #[]) rfl
        have hi2 := ins_int 106 _ _ Tryd.underlying106 Tryd.underlying3 #[⟨.int .i64 0, .func (.func 88) #[] #[], 0⟩, ⟨.int .i64 1, .func (.func 89) #[] #[], 1⟩] 2 2 (.func (.func 89) #[] #[]) rfl
        have hi3 := ins_int 106 _ _ Tryd.underlying106 Tryd.underlying3 #[⟨.int .i64 0, .func (.func 88) #[] #[], 0⟩, ⟨.int .i64 1, .func (.func 89) #[] #[], 1⟩, ⟨.int .i64 2, .func (.func 89) #[] #[], 2⟩] 3 4 (.func (.func 89) #[] #[]) rfl
        have hi4 := ins_int 106 _ _ Tryd.underlying106 Tryd.underlying3 #[⟨.int .i64 0, .func (.func 88) #[] #[], 0⟩, ⟨.int .i64 1, .func (.func 89) #[] #[], 1⟩, ⟨.int .i64 2, .func (.func 89) #[] #[], 2⟩, ⟨.int .i64 4, .func (.func 89) #[] #[], 3⟩] 4 8 (.func (.func 89) #[] #[]) rfl
        have hi5 := ins_int 106 _ _ Tryd.underlying106 Tryd.underlying3 #[⟨.int .i64 0, .func (.func 88) #[] #[], 0⟩, ⟨.int .i64 1, .func (.func 89) #[] #[], 1⟩, ⟨.int .i64 2, .func (.func 89) #[] #[], 2⟩, ⟨.int .i64 4, .func (.func 89) #[] #[], 3⟩, ⟨.int .i64 8, .func (.func 89) #[] #[], 4⟩] 5 16 (.func (.func 90) #[] #[]) rfl
        rcases width_cases code with hw | hw | hw | hw | hw | hw
        · rw [putP_num hck hfit hsz (by rw [hw]; decide)]
          have hlk := look_int 106 _ _ Tryd.underlying106 Tryd.underlying3 #[⟨.int .i64 0, .func (.func 88) #[] #[], 0⟩, ⟨.int .i64 1, .func (.func 89) #[] #[], 1⟩, ⟨.int .i64 2, .func (.func 89) #[] #[], 2⟩, ⟨.int .i64 4, .func (.func 89) #[] #[], 3⟩, ⟨.int .i64 8, .func (.func 89) #[] #[], 4⟩, ⟨.int .i64 16, .func (.func 90) #[] #[], 5⟩] 6 0 0 (.func (.func 88) #[] #[]) rfl
          have HC := Lib.hid hck
          have HF := Lib.hid hfit
          clear hck hfit
          go_enter Tryd.func25, Tryd.ntmps25
          go_wp2_with (first | (go_at_call 21; refine (Check_calls _ _ _ _ _ _ _ h0 h1 hs' (hT.alloc _) hl).mono ?_; rw [HC.out]; rintro e w1 ⟨rfl, hb1⟩; have HB1 := below_step (below_new _ _) hb1; obtain ⟨hc1, hf1⟩ := kept_cells hb1; have hz1 := new_lt hb1) | (go_at_call 24; refine (Fits_calls _ _ _ _ _ _ _ _ h0 h1 hs' (hT.below HB1) hl).mono ?_; rw [HF.out]; rintro e w2 ⟨rfl, hb2⟩; have HB2 := below_step HB1 hb2; obtain ⟨hc2, hf2⟩ := kept_cells hb2; have hz2 := Nat.lt_of_lt_of_le hz1 hb2.size) | (go_at_call 23; refine (Of_calls _ _).mono ?_; rintro e w3 ⟨rfl, hb3⟩; have HB3 := below_step HB2 hb3; obtain ⟨hc3, hf3⟩ := kept_cells hb3; have hz3 := Nat.lt_of_lt_of_le hz2 hb3.size) | (go_at_call 88; refine (none_calls _ _ _ _ _ _ _ _ _ _ _ _).mono ?_; rintro e w4 ⟨rfl, hb4⟩))
          go_ret2
          exact ⟨by rw [hw]; rfl, below_step (below_alloc (below_alloc HB3 _) _) hb4⟩
        · rw [putP_num hck hfit hsz (by rw [hw]; decide)]
          have hlk := look_int 106 _ _ Tryd.underlying106 Tryd.underlying3 #[⟨.int .i64 0, .func (.func 88) #[] #[], 0⟩, ⟨.int .i64 1, .func (.func 89) #[] #[], 1⟩, ⟨.int .i64 2, .func (.func 89) #[] #[], 2⟩, ⟨.int .i64 4, .func (.func 89) #[] #[], 3⟩, ⟨.int .i64 8, .func (.func 89) #[] #[], 4⟩, ⟨.int .i64 16, .func (.func 90) #[] #[], 5⟩] 6 1 1 (.func (.func 89) #[] #[]) rfl
          have HC := Lib.hid hck
          have HF := Lib.hid hfit
          clear hck hfit
          go_enter Tryd.func25, Tryd.ntmps25
          go_wp2_with (first | (go_at_call 21; refine (Check_calls _ _ _ _ _ _ _ h0 h1 hs' (hT.alloc _) hl).mono ?_; rw [HC.out]; rintro e w1 ⟨rfl, hb1⟩; have HB1 := below_step (below_new _ _) hb1; obtain ⟨hc1, hf1⟩ := kept_cells hb1; have hz1 := new_lt hb1) | (go_at_call 24; refine (Fits_calls _ _ _ _ _ _ _ _ h0 h1 hs' (hT.below HB1) hl).mono ?_; rw [HF.out]; rintro e w2 ⟨rfl, hb2⟩; have HB2 := below_step HB1 hb2; obtain ⟨hc2, hf2⟩ := kept_cells hb2; have hz2 := Nat.lt_of_lt_of_le hz1 hb2.size) | (go_at_call 23; refine (Of_calls _ _).mono ?_; rintro e w3 ⟨rfl, hb3⟩; have HB3 := below_step HB2 hb3; obtain ⟨hc3, hf3⟩ := kept_cells hb3; have hz3 := Nat.lt_of_lt_of_le hz2 hb3.size) | (go_at_call 89; refine (number_calls _ _ _ _ _ _ _ _ _ _ _ _ h0 h1 (by omega)).mono ?_; rintro e w4 ⟨rfl, hb4⟩))
          go_ret2
          exact ⟨by rw [hw]; rfl, below_step (below_alloc (below_alloc HB3 _) _) hb4⟩
        · rw [putP_num hck hfit hsz (by rw [hw]; decide)]
          have hlk := look_int 106 _ _ Tryd.underlying106 Tryd.underlying3 #[⟨.int .i64 0, .func (.func 88) #[] #[], 0⟩, ⟨.int .i64 1, .func (.func 89) #[] #[], 1⟩, ⟨.int .i64 2, .func (.func 89) #[] #[], 2⟩, ⟨.int .i64 4, .func (.func 89) #[] #[], 3⟩, ⟨.int .i64 8, .func (.func 89) #[] #[], 4⟩, ⟨.int .i64 16, .func (.func 90) #[] #[], 5⟩] 6 2 2 (.func (.func 89) #[] #[]) rfl
          have HC := Lib.hid hck
          have HF := Lib.hid hfit
          clear hck hfit
          go_enter Tryd.func25, Tryd.ntmps25
          go_wp2_with (first | (go_at_call 21; refine (Check_calls _ _ _ _ _ _ _ h0 h1 hs' (hT.alloc _) hl).mono ?_; rw [HC.out]; rintro e w1 ⟨rfl, hb1⟩; have HB1 := below_step (below_new _ _) hb1; obtain ⟨hc1, hf1⟩ := kept_cells hb1; have hz1 := new_lt hb1) | (go_at_call 24; refine (Fits_calls _ _ _ _ _ _ _ _ h0 h1 hs' (hT.below HB1) hl).mono ?_; rw [HF.out]; rintro e w2 ⟨rfl, hb2⟩; have HB2 := below_step HB1 hb2; obtain ⟨hc2, hf2⟩ := kept_cells hb2; have hz2 := Nat.lt_of_lt_of_le hz1 hb2.size) | (go_at_call 23; refine (Of_calls _ _).mono ?_; rintro e w3 ⟨rfl, hb3⟩; have HB3 := below_step HB2 hb3; obtain ⟨hc3, hf3⟩ := kept_cells hb3; have hz3 := Nat.lt_of_lt_of_le hz2 hb3.size) | (go_at_call 89; refine (number_calls _ _ _ _ _ _ _ _ _ _ _ _ h0 h1 (by omega)).mono ?_; rintro e w4 ⟨rfl, hb4⟩))
          go_ret2
          exact ⟨by rw [hw]; rfl, below_step (below_alloc (below_alloc HB3 _) _) hb4⟩
        · rw [putP_num hck hfit hsz (by rw [hw]; decide)]
          have hlk := look_int 106 _ _ Tryd.underlying106 Tryd.underlying3 #[⟨.int .i64 0, .func (.func 88) #[] #[], 0⟩, ⟨.int .i64 1, .func (.func 89) #[] #[], 1⟩, ⟨.int .i64 2, .func (.func 89) #[] #[], 2⟩, ⟨.int .i64 4, .func (.func 89) #[] #[], 3⟩, ⟨.int .i64 8, .func (.func 89) #[] #[], 4⟩, ⟨.int .i64 16, .func (.func 90) #[] #[], 5⟩] 6 4 3 (.func (.func 89) #[] #[]) rfl
          have HC := Lib.hid hck
          have HF := Lib.hid hfit
          clear hck hfit
          go_enter Tryd.func25, Tryd.ntmps25
          go_wp2_with (first | (go_at_call 21; refine (Check_calls _ _ _ _ _ _ _ h0 h1 hs' (hT.alloc _) hl).mono ?_; rw [HC.out]; rintro e w1 ⟨rfl, hb1⟩; have HB1 := below_step (below_new _ _) hb1; obtain ⟨hc1, hf1⟩ := kept_cells hb1; have hz1 := new_lt hb1) | (go_at_call 24; refine (Fits_calls _ _ _ _ _ _ _ _ h0 h1 hs' (hT.below HB1) hl).mono ?_; rw [HF.out]; rintro e w2 ⟨rfl, hb2⟩; have HB2 := below_step HB1 hb2; obtain ⟨hc2, hf2⟩ := kept_cells hb2; have hz2 := Nat.lt_of_lt_of_le hz1 hb2.size) | (go_at_call 23; refine (Of_calls _ _).mono ?_; rintro e w3 ⟨rfl, hb3⟩; have HB3 := below_step HB2 hb3; obtain ⟨hc3, hf3⟩ := kept_cells hb3; have hz3 := Nat.lt_of_lt_of_le hz2 hb3.size) | (go_at_call 89; refine (number_calls _ _ _ _ _ _ _ _ _ _ _ _ h0 h1 (by omega)).mono ?_; rintro e w4 ⟨rfl, hb4⟩))
          go_ret2
          exact ⟨by rw [hw]; rfl, below_step (below_alloc (below_alloc HB3 _) _) hb4⟩
        · rw [putP_num hck hfit hsz (by rw [hw]; decide)]
          have hlk := look_int 106 _ _ Tryd.underlying106 Tryd.underlying3 #[⟨.int .i64 0, .func (.func 88) #[] #[], 0⟩, ⟨.int .i64 1, .func (.func 89) #[] #[], 1⟩, ⟨.int .i64 2, .func (.func 89) #[] #[], 2⟩, ⟨.int .i64 4, .func (.func 89) #[] #[], 3⟩, ⟨.int .i64 8, .func (.func 89) #[] #[], 4⟩, ⟨.int .i64 16, .func (.func 90) #[] #[], 5⟩] 6 8 4 (.func (.func 89) #[] #[]) rfl
          have HC := Lib.hid hck
          have HF := Lib.hid hfit
          clear hck hfit
          go_enter Tryd.func25, Tryd.ntmps25
          go_wp2_with (first | (go_at_call 21; refine (Check_calls _ _ _ _ _ _ _ h0 h1 hs' (hT.alloc _) hl).mono ?_; rw [HC.out]; rintro e w1 ⟨rfl, hb1⟩; have HB1 := below_step (below_new _ _) hb1; obtain ⟨hc1, hf1⟩ := kept_cells hb1; have hz1 := new_lt hb1) | (go_at_call 24; refine (Fits_calls _ _ _ _ _ _ _ _ h0 h1 hs' (hT.below HB1) hl).mono ?_; rw [HF.out]; rintro e w2 ⟨rfl, hb2⟩; have HB2 := below_step HB1 hb2; obtain ⟨hc2, hf2⟩ := kept_cells hb2; have hz2 := Nat.lt_of_lt_of_le hz1 hb2.size) | (go_at_call 23; refine (Of_calls _ _).mono ?_; rintro e w3 ⟨rfl, hb3⟩; have HB3 := below_step HB2 hb3; obtain ⟨hc3, hf3⟩ := kept_cells hb3; have hz3 := Nat.lt_of_lt_of_le hz2 hb3.size) | (go_at_call 89; refine (number_calls _ _ _ _ _ _ _ _ _ _ _ _ h0 h1 (by omega)).mono ?_; rintro e w4 ⟨rfl, hb4⟩))
          go_ret2
          exact ⟨by rw [hw]; rfl, below_step (below_alloc (below_alloc HB3 _) _) hb4⟩
        · rw [putP_bytes hck hfit hsz hw]
          have hlk := look_int 106 _ _ Tryd.underlying106 Tryd.underlying3 #[⟨.int .i64 0, .func (.func 88) #[] #[], 0⟩, ⟨.int .i64 1, .func (.func 89) #[] #[], 1⟩, ⟨.int .i64 2, .func (.func 89) #[] #[], 2⟩, ⟨.int .i64 4, .func (.func 89) #[] #[], 3⟩, ⟨.int .i64 8, .func (.func 89) #[] #[], 4⟩, ⟨.int .i64 16, .func (.func 90) #[] #[], 5⟩] 6 16 5 (.func (.func 90) #[] #[]) rfl
          have HC := Lib.hid hck
          have HF := Lib.hid hfit
          clear hck hfit
          go_enter Tryd.func25, Tryd.ntmps25
          go_wp2_with (first | (go_at_call 21; refine (Check_calls _ _ _ _ _ _ _ h0 h1 hs' (hT.alloc _) hl).mono ?_; rw [HC.out]; rintro e w1 ⟨rfl, hb1⟩; have HB1 := below_step (below_new _ _) hb1; obtain ⟨hc1, hf1⟩ := kept_cells hb1; have hz1 := new_lt hb1) | (go_at_call 24; refine (Fits_calls _ _ _ _ _ _ _ _ h0 h1 hs' (hT.below HB1) hl).mono ?_; rw [HF.out]; rintro e w2 ⟨rfl, hb2⟩; have HB2 := below_step HB1 hb2; obtain ⟨hc2, hf2⟩ := kept_cells hb2; have hz2 := Nat.lt_of_lt_of_le hz1 hb2.size) | (go_at_call 23; refine (Of_calls _ _).mono ?_; rintro e w3 ⟨rfl, hb3⟩; have HB3 := below_step HB2 hb3; obtain ⟨hc3, hf3⟩ := kept_cells hb3; have hz3 := Nat.lt_of_lt_of_le hz2 hb3.size) | (go_at_call 90; refine (bytes_calls _ _ _ _ _ _ _ _ _ _ _ _).mono ?_; rintro e w4 ⟨rfl, hb4⟩))
          go_ret2
          exact ⟨rfl, below_step (below_alloc (below_alloc HB3 _) _) hb4⟩
    · simp only [Bool.not_eq_true] at hfit
      rw [putP_unfit hck hfit]
      have HC := Lib.hid hck
      have HF := Lib.hid hfit
      clear hck hfit
      go_enter Tryd.func25, Tryd.ntmps25
      go_wp2_with (first | (go_at_call 21; refine (Check_calls _ _ _ _ _ _ _ h0 h1 hs' (hT.alloc _) hl).mono ?_; rw [HC.out]; rintro e w1 ⟨rfl, hb1⟩; have HB1 := below_step (below_new _ _) hb1; obtain ⟨hc1, hf1⟩ := kept_cells hb1; have hz1 := new_lt hb1) | (go_at_call 24; refine (Fits_calls _ _ _ _ _ _ _ _ h0 h1 hs' (hT.below HB1) hl).mono ?_; rw [HF.out]; rintro e w2 ⟨rfl, hb2⟩; have HB2 := below_step HB1 hb2; obtain ⟨hc2, hf2⟩ := kept_cells hb2; have hz2 := Nat.lt_of_lt_of_le hz1 hb2.size))
      go_ret2
      exact ⟨rfl, HB2⟩
  · rw [putP_bad hck]
    have hne := hck
    go_enter Tryd.func25, Tryd.ntmps25
    go_wp2_with (go_at_call 21; refine (Check_calls _ _ _ _ _ _ _ h0 h1 hs' (hT.alloc _) hl).mono ?_; rintro e w1 ⟨rfl, hb1⟩)
    go_ret2
    exact ⟨rfl, below_step (below_new _ _) hb1⟩
end Go.Proofs.YtekpofpgkokoiaaDoor.M
set_option linter.unusedVariables false
set_option linter.unusedSimpArgs false
namespace Go.Proofs.YtekpofpgkokoiaaDoor.M
open Go.RowKit Go.Proofs.YtekpofpgkokoiaaDoorW.PrintWords Go.Sort Go.Shelf
def tableR : List Ct := [
  ⟨0x40, 1, 0, false, false⟩, ⟨0x41, 2, 0, false, false⟩, ⟨0x42, 2, 0, false, false⟩, ⟨0x56, 2, 1, false, false⟩,
  ⟨0x50, 3, 1, false, false⟩, ⟨0x60, 4, 2, false, false⟩,
  ⟨0x43, 5, 0, false, false⟩, ⟨0x52, 5, 1, false, false⟩, ⟨0x70, 5, 4, false, false⟩,
  ⟨0x44, 6, 0, false, false⟩, ⟨0x53, 6, 1, false, false⟩, ⟨0x80, 6, 8, false, false⟩,
  ⟨0x51, 7, 1, false, false⟩, ⟨0x61, 8, 2, false, false⟩,
  ⟨0x54, 9, 1, false, false⟩, ⟨0x71, 9, 4, false, false⟩,
  ⟨0x55, 10, 1, false, false⟩, ⟨0x81, 10, 8, false, false⟩,
  ⟨0x72, 11, 4, false, false⟩, ⟨0x82, 12, 8, false, false⟩,
  ⟨0x74, 13, 4, false, false⟩, ⟨0x84, 14, 8, false, false⟩, ⟨0x94, 15, 16, false, false⟩,
  ⟨0x73, 16, 4, false, false⟩, ⟨0x83, 17, 8, false, false⟩, ⟨0x98, 18, 16, false, false⟩,
  ⟨0xa0, 19, 1, true, false⟩, ⟨0xb0, 19, 4, true, false⟩,
  ⟨0xa1, 20, 1, true, false⟩, ⟨0xb1, 20, 4, true, false⟩,
  ⟨0xa3, 21, 1, true, false⟩, ⟨0xb3, 21, 4, true, false⟩,
  ⟨0x45, 22, 0, false, true⟩, ⟨0xc0, 22, 1, true, true⟩, ⟨0xd0, 22, 4, true, true⟩,
  ⟨0xc1, 23, 1, true, true⟩, ⟨0xd1, 23, 4, true, true⟩,
  ⟨0xe0, 24, 1, true, true⟩, ⟨0xf0, 24, 4, true, true⟩,
  ⟨0x00, 25, 0, false, true⟩]
theorem tableR_row (w : World) (cs : Array Value) (h : cs.toList = tableR.flatMap cellsC) : Kd.R kC 34 (w.alloc (.cells cs 34)) w.heap.size (fun _ => True) (.slice (some ⟨w.heap.size, 0, none⟩) 40 40) tableR := by
  have hs : cs.size = 40 * 5 := by rw [← Array.length_toList, h]; rfl
  have := World.ownsRow_lit (base := w.heap.size) (e := 34) (size := 5) w cs 40 (Nat.le_refl _) (by unfold maxLen; omega) hs
  rw [h] at this
  exact ⟨fun _ _ => trivial, tableR.flatMap cellsC, this, reps_cells _ (fun p => kC_mkM _ _ _ p) _⟩
set_option maxRecDepth 100000 in
set_option maxHeartbeats 8000000 in
theorem tableR_calls (w : World) : Calls Tryd.prog 101 #[] w fun e w' => ∃ v0_ : Value, e = .returned v0_ ∧ Kd.R kC 34 w' w.heap.size (fun _ => True) v0_ tableR ∧ Below w.heap.size w w' := by
  go_enter Tryd.func101, Tryd.ntmps101
  go_wp2_with ((with_reducible refine gate_dst (N := 41) rfl ?_); refine Kd.event_run (v := .slice (some ⟨w.heap.size, 0, none⟩) 40 40) (w1 := w.alloc (.cells (tableR.flatMap cellsC).toArray 34)) rfl ?hr ?_; (case hr => kernel_rfl))
  go_ret
  exact ⟨_, rfl, tableR_row w _ rfl, below_new _ _⟩
def polyglotref16_table.f : Option (List Ct) := some tableR
theorem polyglotref16_table.calls (r : List Ct) (w : World) (h : polyglotref16_table.f = some r) :
    Calls Tryd.prog 101 #[] w fun e w' => ∃ v0_ : Value, e = .returned v0_ ∧ Kd.R kC 34 w' w.heap.size (fun _ => True) v0_ r ∧ Below w.heap.size w w' := by
  unfold polyglotref16_table.f at h
  injection h with h
  subst h
  exact tableR_calls w
end Go.Proofs.YtekpofpgkokoiaaDoor.M
set_option linter.unusedVariables false
namespace Go.Proofs.YtekpofpgkokoiaaDoor.M
open Go.RowKit Go.Proofs.YtekpofpgkokoiaaDoorW.PrintWords
def okN (n : Int) (s : ByteArray) : Prop := 0 ≤ n ∧ n < 18446744073709551616 ∧ s.size ≤ 140737488351232
instance (n : Int) (s : ByteArray) : Decidable (okN n s) := by unfold okN; infer_instance
def amqprim_Of.f (a0 : Int) : Option (Int × Int × Int × Bool × Bool × Bool) := some ((ofC a0).code, (ofC a0).kind, (ofC a0).width, (ofC a0).sized, (ofC a0).items, ofB a0)
theorem amqprim_Of.calls (a0 : Int) (r1 r2 r3 : Int) (r4 r5 r6 : Bool) (w : World) (h : amqprim_Of.f a0 = some (r1, r2, r3, r4, r5, r6)) :
    Calls Tryd.prog 23 #[.int .i64 a0] w fun e w' => e = .returned (.tuple #[.agg #[.int .i64 r1, .int .i64 r2, .int .i64 r3, .bool r4, .bool r5], .bool r6]) ∧ Below w.heap.size w w' := by
  unfold amqprim_Of.f at h
  injection h with h
  simp only [Prod.mk.injEq] at h
  obtain ⟨rfl, rfl, rfl, rfl, rfl, rfl⟩ := h
  exact Of_calls a0 w
def amqprim_Codes.f (a0 : Int) : Option (List Int) := some (codesL a0)
theorem amqprim_Codes.calls (a0 : Int) (r : List Int) (w : World) (h : amqprim_Codes.f a0 = some r) :
    Calls Tryd.prog 20 #[.int .i64 a0] w fun e w' => ∃ v0_ : Value, e = .returned v0_ ∧ Kd.R (Kd.int .i64) 3 w' w.heap.size (fun _ => True) v0_ r ∧ Below w.heap.size w w' := by
  unfold amqprim_Codes.f at h
  injection h with h
  subst h
  exact Codes_calls a0 w
def amqprim_Check.f (k n : Int) (s : ByteArray) (l : List Vl) : Option Int := if okN n s then some (checkP ⟨k, n, s, l⟩) else none
theorem amqprim_Check.calls (a0_0 a0_1 : Int) (a0_2 : ByteArray) (A0_3 : Option Addr) (c0_3 : Nat) (l0_3 : List Vl) (r : Int) (w : World) (hT : Tb w) (hr0_3 : Kd.C kV w A0_3 l0_3.length l0_3) (hc0_3 : l0_3.length ≤ c0_3) (h : amqprim_Check.f a0_0 a0_1 a0_2 l0_3 = some r) :
    Calls Tryd.prog 21 #[.agg #[.int .i64 a0_0, .int .u64 a0_1, .string a0_2, .slice A0_3 l0_3.length c0_3]] w fun e w' => e = .returned (.int .i64 r) ∧ Below w.heap.size w w' := by
  unfold amqprim_Check.f at h
  split at h
  · rename_i ho
    injection h with h
    subst h
    exact Check_calls _ _ _ _ _ _ _ ho.1 ho.2.1 (Nat.le_trans ho.2.2 (by decide)) hT (Kd.C_max hr0_3)
  · cases h
def amqprim_Fits.f (c k n : Int) (s : ByteArray) (l : List Vl) : Option Bool := if okN n s then some (fitsP c ⟨k, n, s, l⟩) else none
theorem amqprim_Fits.calls (a0 a1_0 a1_1 : Int) (a1_2 : ByteArray) (A1_3 : Option Addr) (c1_3 : Nat) (l1_3 : List Vl) (r : Bool) (w : World) (hT : Tb w) (hr1_3 : Kd.C kV w A1_3 l1_3.length l1_3) (hc1_3 : l1_3.length ≤ c1_3) (h : amqprim_Fits.f a0 a1_0 a1_1 a1_2 l1_3 = some r) :
    Calls Tryd.prog 24 #[.int .i64 a0, .agg #[.int .i64 a1_0, .int .u64 a1_1, .string a1_2, .slice A1_3 l1_3.length c1_3]] w fun e w' => e = .returned (.bool r) ∧ Below w.heap.size w w' := by
  unfold amqprim_Fits.f at h
  split at h
  · rename_i ho
    injection h with h
    subst h
    exact Fits_calls _ _ _ _ _ _ _ _ ho.1 ho.2.1 (Nat.le_trans ho.2.2 (by decide)) hT (Kd.C_max hr1_3)
  · cases h
def amqprim_Least.f (k n : Int) (s : ByteArray) (l : List Vl) : Option (Int × Int) := if okN n s then some (leastP ⟨k, n, s, l⟩) else none
theorem amqprim_Least.calls (a0_0 a0_1 : Int) (a0_2 : ByteArray) (A0_3 : Option Addr) (c0_3 : Nat) (l0_3 : List Vl) (r1 r2 : Int) (w : World) (hT : Tb w) (hr0_3 : Kd.C kV w A0_3 l0_3.length l0_3) (hc0_3 : l0_3.length ≤ c0_3) (h : amqprim_Least.f a0_0 a0_1 a0_2 l0_3 = some (r1, r2)) :
    Calls Tryd.prog 41 #[.agg #[.int .i64 a0_0, .int .u64 a0_1, .string a0_2, .slice A0_3 l0_3.length c0_3]] w fun e w' => e = .returned (.tuple #[.int .i64 r1, .int .i64 r2]) ∧ Below w.heap.size w w' := by
  unfold amqprim_Least.f at h
  split at h
  · rename_i ho
    injection h with h
    have hc := Least_calls a0_0 a0_1 a0_2 l0_3 A0_3 c0_3 w ho.1 ho.2.1 (Nat.le_trans ho.2.2 (by decide)) hT (Kd.C_max hr0_3)
    rw [h] at hc
    exact hc
  · cases h
def amqprim_Put.f (c k n : Int) (s : ByteArray) (l : List Vl) : Option (ByteArray × Int) := if okN n s then some (putP c ⟨k, n, s, l⟩) else none
theorem amqprim_Put.calls (a0 a1_0 a1_1 : Int) (a1_2 : ByteArray) (A1_3 : Option Addr) (c1_3 : Nat) (l1_3 : List Vl) (r1 : ByteArray) (r2 : Int) (w : World) (hT : Tb w) (hr1_3 : Kd.C kV w A1_3 l1_3.length l1_3) (hc1_3 : l1_3.length ≤ c1_3) (h : amqprim_Put.f a0 a1_0 a1_1 a1_2 l1_3 = some (r1, r2)) :
    Calls Tryd.prog 25 #[.int .i64 a0, .agg #[.int .i64 a1_0, .int .u64 a1_1, .string a1_2, .slice A1_3 l1_3.length c1_3]] w fun e w' => e = .returned (.tuple #[.string r1, .int .i64 r2]) ∧ Below w.heap.size w w' := by
  unfold amqprim_Put.f at h
  split at h
  · rename_i ho
    injection h with h
    have hc := Put_calls a0 a1_0 a1_1 a1_2 l1_3 A1_3 c1_3 w ho.1 ho.2.1 ho.2.2 hT (Kd.C_max hr1_3)
    rw [h] at hc
    exact hc
  · cases h
end Go.Proofs.YtekpofpgkokoiaaDoor.M
