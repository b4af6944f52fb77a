/- A part of this claim: what its theorem leans on. -/
import Derived.Test.YtekpofpgkokoiaaDoorZH2
import Derived.Deep.RegionWith
import Derived.Deep.RegionHeld3
set_option linter.unusedVariables false
set_option linter.unusedSimpArgs false
namespace Go.Proofs.YtekpofpgkokoiaaDoor.M
open Go.RowKit Go.Proofs.YtekpofpgkokoiaaDoorW.PrintWords
set_option maxHeartbeats 1000000 in
theorem closure_of (c1 k1 w1 : Int) (s1 i1 : Bool) (code : Int) (W : World) : Calls Tryd.prog 85 #[.agg #[.int .i64 c1, .int .i64 k1, .int .i64 w1, .bool s1, .bool i1], .int .i64 code] W fun e w' => e = .returned (.int .i64 (cmpC c1 code)) ∧ Below W.heap.size W w' := by
  have hcon := fun W' => AnyG.cmp_Compare_int Tryd.cmpL c1 code W'
  change ∀ W', Calls Tryd.prog 78 _ _ _ at hcon
  unfold cmpC
  generalize Lib.compareInt c1 code = r at hcon ⊢
  go_enter Tryd.func85, Tryd.ntmps85
  go_wp2_with (go_at_call 78; refine (hcon _).mono ?_; rintro e w' ⟨rfl, rfl⟩)
  go_ret
  exact ⟨rfl, below_new _ _⟩
theorem cmpC_lt (a b : Int) : (cmpC a b < 0) ↔ a < b := by
  unfold cmpC Lib.compareInt
  by_cases h1 : a < b
  · simp [h1]
  · by_cases h2 : b < a <;> simp [h1, h2]
theorem cmpC_eq (a b : Int) : (cmpC a b = 0) ↔ a = b := by
  unfold cmpC Lib.compareInt
  by_cases h1 : a < b
  · simp [h1]; omega
  · by_cases h2 : b < a <;> simp [h1, h2] <;> omega
def tc (j : Nat) : Ct := tableL.getD j zC
theorem tc_sorted : ∀ i j, i < j → j < 40 → (tc i).code < (tc j).code := by
  have h : ∀ i : Fin 40, ∀ j : Fin 40, i.val < j.val → (tc i.val).code < (tc j.val).code := by decide
  exact fun i j hij hj => h ⟨i, by omega⟩ ⟨j, hj⟩ hij
theorem tc_of : ∀ j, j < 40 → ofO (tc j).code = some (tc j) := by
  have h : ∀ j : Fin 40, ofO (tc j.val).code = some (tc j.val) := by decide
  exact fun j hj => h ⟨j, hj⟩
set_option maxRecDepth 100000 in
set_option maxHeartbeats 2000000 in
theorem search_calls (g cap : Nat) (code : Int) (w : World) (hg : g < w.heap.size)
    (hc : ∀ j, j < 40 → w.cell? ⟨g, j * 5, none⟩ = some (.int .i64 (tc j).code) ∧ w.cell? ⟨g, j * 5 + 1, none⟩ = some (.int .i64 (tc j).kind) ∧ w.cell? ⟨g, j * 5 + 2, none⟩ = some (.int .i64 (tc j).width) ∧ w.cell? ⟨g, j * 5 + 3, none⟩ = some (.bool (tc j).sized) ∧ w.cell? ⟨g, j * 5 + 4, none⟩ = some (.bool (tc j).items)) :
    Calls Tryd.prog 84 #[.slice (some ⟨g, 0, none⟩) 40 cap, .int .i64 code, .func (.func 85) #[] #[]] w fun e w' => (∃ j : Nat, j ≤ 40 ∧ (∀ q, q < j → (tc q).code < code) ∧ (∀ q, j ≤ q → q < 40 → code ≤ (tc q).code) ∧ e = .returned (.tuple #[.int .i64 j, .bool (decide (j < 40 ∧ (tc j).code = code))])) ∧ Below w.heap.size w w' := by
  have Hc := Lib.hid hc
  clear hc
  go_enter Tryd.func84, Tryd.ntmps84
  go_wp2
  go_loopw [9, 10, 11] (fun i j _ wr => ∃ a b : Nat, a ≤ b ∧ b ≤ 40 ∧ i = .int .i64 a ∧ j = .int .i64 b ∧ Hid (∀ q, q < a → (tc q).code < code) ∧ Hid (∀ q, b ≤ q → q < 40 → code ≤ (tc q).code) ∧ Below w.heap.size w wr) (fun i j _ _ => (intOf j).toNat - (intOf i).toNat)
  case atStart => exact ⟨0, 40, by omega, by omega, rfl, rfl, Lib.hid (fun q h => by omega), Lib.hid (fun q h1 h2 => by omega), Below.refl _ _⟩
  case round =>
    obtain ⟨a, b, hab, hb, rfl, rfl, HA, HB, hbw⟩ := hrel
    by_cases hlt : a < b
    · obtain ⟨h0, h1, h2, h3, h4⟩ := Hc.out ((a + b) / 2) (by omega)
      have k0 := pw_cell_below hbw h0
      have k1 := pw_cell_below hbw h1
      have k2 := pw_cell_below hbw h2
      have k3 := pw_cell_below hbw h3
      have k4 := pw_cell_below hbw h4
      clear h0 h1 h2 h3 h4
      have hm1 : a ≤ (a + b) / 2 := by omega
      have hm2 : (a + b) / 2 < b := by omega
      go_wp2_with (go_at_call 85; refine (closure_of _ _ _ _ _ _ _).mono ?_; rintro e w1 ⟨rfl, hb1⟩)
      · go_roundw
        case rel =>
          have hq : (tc ((a + b) / 2)).code < code := (cmpC_lt _ _).1 (by assumption)
          exact ⟨(a + b) / 2 + 1, b, by omega, by omega, by go_num, rfl, Lib.hid (fun q hql => if e : q = (a + b) / 2 then by subst e; exact hq else Int.lt_trans (tc_sorted q _ (by omega) (by omega)) hq), HB, below_step hbw hb1⟩
        case measure => simp [intOf]; omega
      · go_roundw
        case rel =>
          have hq : ¬ cmpC (tc ((a + b) / 2)).code code < 0 := by first | assumption | (have h : 0 ≤ cmpC (tc ((a + b) / 2)).code code := (by assumption); omega)
          have hq' : code ≤ (tc ((a + b) / 2)).code := by have := mt (cmpC_lt (tc ((a + b) / 2)).code code).2 hq; omega
          exact ⟨a, (a + b) / 2, by omega, by omega, rfl, by go_num, HA, Lib.hid (fun q h1 h2 => if e : q = (a + b) / 2 then by subst e; exact hq' else Int.le_of_lt (Int.lt_of_le_of_lt hq' (tc_sorted _ q (by omega) (by omega)))), below_step hbw hb1⟩
        case measure => simp [intOf]; omega
    · obtain rfl : a = b := by omega
      by_cases h40 : a < 40
      · obtain ⟨h0, h1, h2, h3, h4⟩ := Hc.out a h40
        have k0 := pw_cell_below hbw h0
        have k1 := pw_cell_below hbw h1
        have k2 := pw_cell_below hbw h2
        have k3 := pw_cell_below hbw h3
        have k4 := pw_cell_below hbw h4
        clear h0 h1 h2 h3 h4
        go_wp2_with (go_at_call 85; refine (closure_of _ _ _ _ _ _ _).mono ?_; rintro e w1 ⟨rfl, hb1⟩)
        go_ret2
        refine ⟨⟨a, hb, HA.out, HB.out, ret_ib rfl ?_⟩, below_step hbw hb1⟩
        rw [Bool.eq_iff_iff]
        simp [cmpC_eq, h40]
      · go_wp2
        go_ret2
        exact ⟨⟨a, hb, HA.out, HB.out, ret_ib rfl (by simp [h40])⟩, hbw⟩
theorem ofO_some {code : Int} {j : Nat} (hj : j < 40) (h : (tc j).code = code) : ofO code = some (tc j) := by rw [← h]; exact tc_of j hj
theorem ofO_none {code : Int} {j : Nat} (h1 : ∀ q, q < j → (tc q).code < code) (h2 : ∀ q, j ≤ q → q < 40 → code ≤ (tc q).code) (h : ¬ (j < 40 ∧ (tc j).code = code)) : ofO code = none := by
  unfold ofO
  rw [List.find?_eq_none]
  intro c hc
  obtain ⟨q, hq, rfl⟩ := List.mem_iff_getElem.1 hc
  have hq40 : q < 40 := hq
  have e : tableL[q] = tc q := by unfold tc; rw [List.getD_eq_getElem?_getD, List.getElem?_eq_getElem hq]; rfl
  intro hdec
  have hcode : (tc q).code = code := by rw [← e]; exact of_decide_eq_true hdec
  rcases Nat.lt_or_ge q j with hqj | hqj
  · have := h1 q hqj
    omega
  · rcases Nat.eq_or_lt_of_le hqj with he | he
    · subst he
      exact h ⟨hq40, hcode⟩
    · have a1 := h2 j (Nat.le_refl _) (by omega)
      have a2 := tc_sorted j q he hq40
      omega
theorem table_cells {w : World} {base : Nat} {ok : Nat → Prop} {v : Value} (h : Kd.R kC 34 w base ok v tableL) : ∃ g cap, v = .slice (some ⟨g, 0, none⟩) 40 cap ∧ base ≤ g ∧ g < w.heap.size ∧
    ∀ j, j < 40 → w.cell? ⟨g, j * 5, none⟩ = some (.int .i64 (tc j).code) ∧ w.cell? ⟨g, j * 5 + 1, none⟩ = some (.int .i64 (tc j).kind) ∧ w.cell? ⟨g, j * 5 + 2, none⟩ = some (.int .i64 (tc j).width) ∧ w.cell? ⟨g, j * 5 + 3, none⟩ = some (.bool (tc j).sized) ∧ w.cell? ⟨g, j * 5 + 4, none⟩ = some (.bool (tc j).items) := by
  obtain ⟨inner, ho⟩ := Kd.R_own h
  obtain ⟨g, cap, rfl, hg, hl⟩ := ho.form (by decide)
  obtain ⟨A, c, e, _, hC⟩ := Kd.R_reads h
  refine ⟨g, cap, rfl, hg, hl, fun j hj => ?_⟩
  obtain ⟨ad, ha, h0, h1, h2, h3, h4⟩ := atC hC j (by omega) (by show (j : Int) < ((40 : Nat) : Int); omega)
  injection e with e1 e2 e3
  rw [ha] at e1
  injection e1 with e1
  subst e1
  have hn : (j : Int).toNat = j := by omega
  rw [hn, add_plain] at h0 h1 h2 h3 h4
  exact ⟨h0, h1, h2, h3, h4⟩
theorem ret_of {c c' : Ct} {b b' : Bool} (h : c = c') (hb : b = b') : Ending.returned (.tuple #[.agg #[.int .i64 c'.code, .int .i64 c'.kind, .int .i64 c'.width, .bool c'.sized, .bool c'.items], .bool b']) = .returned (.tuple #[.agg #[.int .i64 c.code, .int .i64 c.kind, .int .i64 c.width, .bool c.sized, .bool c.items], .bool b]) := by rw [h, hb]
set_option maxRecDepth 100000 in
set_option maxHeartbeats 2000000 in
theorem Of_calls (code : Int) (w : World) : Calls Tryd.prog 23 #[.int .i64 code] w fun e w' => e = .returned (.tuple #[.agg #[.int .i64 (ofC code).code, .int .i64 (ofC code).kind, .int .i64 (ofC code).width, .bool (ofC code).sized, .bool (ofC code).items], .bool (ofB code)]) ∧ Below w.heap.size w w' := by
  go_enter Tryd.func23, Tryd.ntmps23
  go_wp2_with (go_at_call 75; refine (table_calls _).mono ?_; rintro e w1 ⟨v, rfl, hR, hb1⟩; have HB1 := below_step (below_new _ _) hb1; have hz1 := new_lt hb1; obtain ⟨hc1, hf1⟩ := kept_cells hb1; obtain ⟨g, cap, hv, hg, hgl, hcells⟩ := table_cells hR; rw [hv])
  have hng : w.heap.size ≠ g := by have : (w.alloc (Obj.cells #[Value.int IntKind.i64 0, Value.int IntKind.i64 0, Value.int IntKind.i64 0, Value.bool false, Value.bool false] 34)).heap.size = w.heap.size + 1 := by simp
                                   omega
  have Hc := Lib.hid hcells
  have HV := Lib.hid hv
  clear hcells hv hR
  refine (search_calls g cap code _ hgl Hc.out).mono ?_
  rintro e w2 ⟨⟨j, hj, hq1, hq2, rfl⟩, hb2⟩
  have HQ1 := Lib.hid hq1
  have HQ2 := Lib.hid hq2
  clear hq1 hq2
  have HB2 := below_step HB1 hb2
  have hz2 := Nat.lt_of_lt_of_le hz1 hb2.size
  obtain ⟨hc2, hf2⟩ := kept_cells hb2
  by_cases hjc : j < 40 ∧ (tc j).code = code
  · have hd : decide (j < 40 ∧ (tc j).code = code) = true := decide_eq_true hjc
    obtain ⟨h0, h1, h2, h3, h4⟩ := Hc.out j hjc.1
    have hj40 := hjc.1
    have hO : ofO code = some (tc j) := ofO_some hjc.1 hjc.2
    have HO := Lib.hid hO
    clear hO hjc
    rw [hd]
    clear hd
    go_wp2
    have bk := put5 (blk_below (blk_below (blk_new w (Obj.cells #[Value.int IntKind.i64 0, Value.int IntKind.i64 0, Value.int IntKind.i64 0, Value.bool false, Value.bool false] 34)) hb1) hb2) (.int .i64 (tc j).code) (.int .i64 (tc j).kind) (.int .i64 (tc j).width) (.bool (tc j).sized) (.bool (tc j).items)
    refine bodyPost_ret (results_ct rfl _ _ w.heap.size 34 _ (0, 0) _ rfl bk Tryd.underlying34 rfl (by kernel_rfl)) rfl ⟨?_, below_put5 HB2 (Nat.le_refl _) _ _ _ _ _⟩
    exact ret_of (by unfold ofC; rw [HO.out]; rfl) (by unfold ofB; rw [HO.out]; rfl)
  · have hd : decide (j < 40 ∧ (tc j).code = code) = false := decide_eq_false hjc
    have hO : ofO code = none := ofO_none HQ1.out HQ2.out hjc
    have HO := Lib.hid hO
    clear hO hjc
    rw [hd]
    clear hd
    go_wp2
    have bk := put5 (blk_below (blk_below (blk_new w (Obj.cells #[Value.int IntKind.i64 0, Value.int IntKind.i64 0, Value.int IntKind.i64 0, Value.bool false, Value.bool false] 34)) hb1) hb2) (.int .i64 0) (.int .i64 0) (.int .i64 0) (.bool false) (.bool false)
    refine bodyPost_ret (results_ct rfl _ _ w.heap.size 34 _ (0, 0) _ rfl bk Tryd.underlying34 rfl (by kernel_rfl)) rfl ⟨?_, below_put5 HB2 (Nat.le_refl _) _ _ _ _ _⟩
    exact ret_of (c' := zC) (by unfold ofC; rw [HO.out]; rfl) (by unfold ofB; rw [HO.out]; rfl)
end Go.Proofs.YtekpofpgkokoiaaDoor.M
set_option linter.unusedVariables false
set_option linter.unusedSimpArgs false
namespace Go.Proofs.YtekpofpgkokoiaaDoor.M
open Go.RowKit Go.Proofs.YtekpofpgkokoiaaDoorW.PrintWords Go.Sort Go.Shelf
def RowC (w : World) (A : Option Addr) (l : List Int) : Prop := ∀ j, (hj : j < l.length) → ∃ g, A = some ⟨g, 0, none⟩ ∧ g < w.heap.size ∧
  w.cell? ⟨g, j * 5, none⟩ = some (.int .i64 l[j]) ∧ w.cell? ⟨g, j * 5 + 1, none⟩ = some (.int .i64 (ofC l[j]).kind) ∧ w.cell? ⟨g, j * 5 + 2, none⟩ = some (.int .i64 (ofC l[j]).width) ∧ w.cell? ⟨g, j * 5 + 3, none⟩ = some (.bool (ofC l[j]).sized) ∧ w.cell? ⟨g, j * 5 + 4, none⟩ = some (.bool (ofC l[j]).items)
theorem RowC.below {w w1 : World} {A : Option Addr} {l : List Int} (h : RowC w A l) (hb : Below w.heap.size w w1) : RowC w1 A l := fun j hj => by
  obtain ⟨g, hA, hg, h0, h1, h2, h3, h4⟩ := h j hj
  exact ⟨g, hA, Nat.lt_of_lt_of_le hg hb.size, pw_cell_below hb h0, pw_cell_below hb h1, pw_cell_below hb h2, pw_cell_below hb h3, pw_cell_below hb h4⟩
end Go.Proofs.YtekpofpgkokoiaaDoor.M
set_option linter.unusedVariables false
set_option linter.unusedSimpArgs false
namespace Go.Proofs.YtekpofpgkokoiaaDoor.M
open Go.RowKit Go.Proofs.YtekpofpgkokoiaaDoorW.PrintWords
end Go.Proofs.YtekpofpgkokoiaaDoor.M
set_option linter.unusedVariables false
set_option linter.unusedSimpArgs false
namespace Go.Proofs.YtekpofpgkokoiaaDoor.M
open Go.RowKit Go.Proofs.YtekpofpgkokoiaaDoorW.PrintWords
end Go.Proofs.YtekpofpgkokoiaaDoor.M
set_option linter.unusedVariables false
set_option linter.unusedSimpArgs false
namespace Go.Proofs.YtekpofpgkokoiaaDoor.M
open Go.RowKit Go.Proofs.YtekpofpgkokoiaaDoorW.PrintWords
section
variable (c1 c2 c3 : Int) (c4 c5 : Bool) (k n : Int) (s : ByteArray) (A : Option Addr) (l cp : Nat) (w : World)
end
end Go.Proofs.YtekpofpgkokoiaaDoor.M
set_option linter.unusedVariables false
set_option linter.unusedSimpArgs false
namespace Go.Proofs.YtekpofpgkokoiaaDoor.M
open Go.RowKit Go.Proofs.YtekpofpgkokoiaaDoorW.PrintWords Go.Sort Go.Shelf
end Go.Proofs.YtekpofpgkokoiaaDoor.M
set_option linter.unusedVariables false
namespace Go.Proofs.YtekpofpgkokoiaaDoor.M
open Go.RowKit Go.Proofs.YtekpofpgkokoiaaDoorW.PrintWords
def okN (n : Int) (s : ByteArray) : Prop := 0 ≤ n ∧ n < 18446744073709551616 ∧ s.size ≤ 140737488351232
instance (n : Int) (s : ByteArray) : Decidable (okN n s) := by unfold okN; infer_instance
def amqprim_Of.f (a0 : Int) : Option (Int × Int × Int × Bool × Bool × Bool) := some ((ofC a0).code, (ofC a0).kind, (ofC a0).width, (ofC a0).sized, (ofC a0).items, ofB a0)
theorem amqprim_Of.calls (a0 : Int) (r1 r2 r3 : Int) (r4 r5 r6 : Bool) (w : World) (h : amqprim_Of.f a0 = some (r1, r2, r3, r4, r5, r6)) :
    Calls Tryd.prog 23 #[.int .i64 a0] w fun e w' => e = .returned (.tuple #[.agg #[.int .i64 r1, .int .i64 r2, .int .i64 r3, .bool r4, .bool r5], .bool r6]) ∧ Below w.heap.size w w' := by
  unfold amqprim_Of.f at h
  injection h with h
  simp only [Prod.mk.injEq] at h
  obtain ⟨rfl, rfl, rfl, rfl, rfl, rfl⟩ := h
  exact Of_calls a0 w
def amqprim_Check.f (k n : Int) (s : ByteArray) (l : List Vl) : Option Int := if okN n s then some (checkP ⟨k, n, s, l⟩) else none
theorem amqprim_Check.calls (a0_0 a0_1 : Int) (a0_2 : ByteArray) (A0_3 : Option Addr) (c0_3 : Nat) (l0_3 : List Vl) (r : Int) (w : World) (hT : Tb w) (hr0_3 : Kd.C kV w A0_3 l0_3.length l0_3) (hc0_3 : l0_3.length ≤ c0_3) (h : amqprim_Check.f a0_0 a0_1 a0_2 l0_3 = some r) :
    Calls Tryd.prog 21 #[.agg #[.int .i64 a0_0, .int .u64 a0_1, .string a0_2, .slice A0_3 l0_3.length c0_3]] w fun e w' => e = .returned (.int .i64 r) ∧ Below w.heap.size w w' := by
  unfold amqprim_Check.f at h
  split at h
  · rename_i ho
    injection h with h
    subst h
    exact Check_calls _ _ _ _ _ _ _ ho.1 ho.2.1 (Nat.le_trans ho.2.2 (by decide)) hT (Kd.C_max hr0_3)
  · cases h
end Go.Proofs.YtekpofpgkokoiaaDoor.M
