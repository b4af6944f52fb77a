/- A part of this claim: what its theorem leans on. -/
import Derived.Test.YtekpofpgkokoiaaDoorZQ0
import Derived.Test.YtekpofpgkokoiaaDoorZZz
import Derived.Test.YtekpofpgkokoiaaDoorZQref16ofaD
namespace Go.Proofs.YtekpofpgkokoiaaDoor.Q
open Go.RowKit Go.Proofs.YtekpofpgkokoiaaDoor.M Go.Proofs.YtekpofpgkokoiaaDoorW.PrintWords Go.Proofs.YtekpofpgkokoiaaDoorW.PrintLast Go.Proofs.YtekpofpgkokoiaaDoorW.PrintMore
attribute [local go_sem] max2_int min2_int max_two min_two max_three min_three max_four min_four
set_option linter.unusedVariables false
set_option linter.unusedSimpArgs false
set_option maxHeartbeats 8000000 in
set_option maxRecDepth 100000 in
theorem polyglotref16_Codes.calls (k : Nat) (a0 : Int) (r : List Int) (w : World) (h : polyglotref16_Codes.f k a0 = some r) :
    Calls Tryd.prog 46 #[.int .i64 a0] w fun e w' => ∃ v0_ : Value, e = .returned (v0_) ∧ Kd.R (Kd.int .i64) 3 w' w.heap.size (fun _ => True) v0_ r ∧ Below w.heap.size w w' := by
  have HB := Aside0.mk (Below.refl w.heap.size w)
  have H : ((polyglotref16_table.f).bind fun t353 => (polyglotref16_Codes.l0 k a0 ([] : List Int) t353 0)) = some r := h
  clear h
  obtain ⟨t353, A2, H⟩ := zbd H
  have H' := Aside0.mk H
  clear H
  go_enter Tryd.func46, Tryd.ntmps46
  go_wp2_with (first | ((with_reducible refine gate_callee (f := 101) rfl ?_); refine goesL_ (some 6) rfl rfl Tryd.func101 (by kernel_rfl) rfl #[] rfl za ?_; (with_reducible refine (polyglotref16_table.calls  t353 _ A2.out).mono ?_); rintro e w3 ⟨v354, rfl, ho0, hb⟩; refine ⟨_, rfl, ?_⟩; have HO355 := Aside0.mk (Kd.R_lower ho0 (below_size zb)); replace HB := Aside0.mk (below_step zb hb); (try clear hb); (try clear hb2); (try clear hk); (try clear hi); (try clear ho0)))
  go_loopg [3, 5] k (fun kq v3 v5 w' => ∃ (x3_1 : List Int) (x5_1 : Int), v5 = .int .i64 x5_1 ∧ Aside0 (polyglotref16_Codes.l0 kq a0 x3_1 t353 x5_1 = some r) ∧ Aside0 (kq ≤ k) ∧ Aside0 (Kd.R (Kd.int .i64) 3 w' w.heap.size (fun _ => True) v3 x3_1) ∧ Aside0 (Kd.R kC 34 w' w.heap.size (fun _ => True) v354 t353) ∧ Aside0 (Below w.heap.size w w'))
  case atStart => exact ⟨(([] : List Int)), (0), zt, H', ⟨Nat.le_refl _⟩, ⟨zn⟩, ⟨zr HO355.out⟩, ⟨zb⟩⟩
  case round =>
   clear H'
   obtain ⟨x3_1, x5_1, rfl, HA, HK1, HO_3, HO_4, HB⟩ := hrel
   cases gk with
   | zero => exact absurd HA.out (by simp [polyglotref16_Codes.l0])
   | succ k1 =>
    have H := HA.out
    clear HA
    simp only [polyglotref16_Codes.l0] at H
    by_cases c4 : x5_1 < (t353.length : Int)
    ·rw [if_pos c4] at H
     have c4b0 : decide (x5_1 < (t353.length : Int)) = true := decide_eq_true c4
     clear c4
     by_cases c5 : 0 ≤ x5_1
     ·rw [if_pos c5] at H
      have c5b0 : decide (0 ≤ x5_1) = true := decide_eq_true c5
      clear c5
      by_cases c6 : ((rdC t353 x5_1).kind) = a0
      ·rw [if_pos c6] at H
       have c6b0 : (((rdC t353 x5_1).kind) == a0) = true := beq_iff_eq.mpr c6
       have c6b1 : (((rdC t353 x5_1).kind) != a0) = false := bne_eq_false_iff_eq.mpr c6
       clear c6
       by_cases c7 : x3_1.length < 17592186044416
       ·rw [if_pos c7] at H
        have LMc7 := Aside0.mk c7
        clear c7
        obtain ⟨y358, hy358⟩ : ∃ y_ : List Int, y_ = (x3_1 ++ [(rdC t353 x5_1).code]) := ⟨_, rfl⟩
        replace H : (polyglotref16_Codes.l0 k1 a0 y358 t353 (wrap64 (x5_1 + 1))) = some r := by first | (rw [hy358]; with_reducible exact H) | (have H2_ := (Option.bind_some _ _).symm.trans H; rw [hy358]; with_reducible exact H2_) | (have H2_ := (Option.bind_some _ _).symm.trans H; with_reducible exact H2_) | with_reducible exact H | (rw [hy358]; exact H) | exact H
        have Ny358 := Aside0.mk hy358
        clear hy358
        have H' := Aside0.mk H
        clear H
        obtain ⟨Ao8, co8, eo8⟩ := Kd.R_slice HO_4.out
        subst eo8
        have p356 : 0 ≤ (x5_1 : Int) := of_decide_eq_true (by first | (with_reducible assumption) | assumption)
        have q356 : x5_1 < (t353.length : Int) := of_decide_eq_true (by first | (with_reducible assumption) | assumption)
        obtain ⟨ad356, e356, hx356_0, hx356_1, hx356_2, hx356_3, hx356_4⟩ := atC (Kd.R_reads' HO_4.out).2.2 x5_1 p356 q356
        cases e356
        replace p356 := eq_true p356
        replace q356 := eq_true q356
        have p357 : 0 ≤ (x5_1 : Int) := of_decide_eq_true (by first | (with_reducible assumption) | assumption)
        have q357 : x5_1 < (t353.length : Int) := of_decide_eq_true (by first | (with_reducible assumption) | assumption)
        obtain ⟨ad357, e357, hx357_0, hx357_1, hx357_2, hx357_3, hx357_4⟩ := atC (Kd.R_reads' HO_4.out).2.2 x5_1 p357 q357
        obtain rfl : ad356 = ad357 := (by injection e357)
        replace p357 := eq_true p357
        replace q357 := eq_true q357
        go_wp2_with (first | ((with_reducible refine gate_builtin (b := .append) (xs := #[.tmp 20, .tmp 26]) rfl ?_); at_builtin; refine Kd.R_append (Kd.int .i64) (w0 := w) w.heap.size rfl (.tmp 20) (.tmp 26) 28 3 (.int .i64 0) 8 rfl Tryd.underlying28 info3 rfl (by decide) (by omega) u3 x3_1 ((rdC t353 x5_1).code) [.int .i64 ((rdC t353 x5_1).code)] (fun _ => True) (fun _ => False) rfl rfl ?aP (fun _ hk => hk.elim) ?aF ?aO ?aB ?aS ?aL ?_; (case aP => exact rfl); (case aB => exact zb); (case aF => exact (fun _ _ => trivial)); (case aO => exact (zr HO_3.out)); (case aS => exact (below_size zb)); (case aL => have := LMc7.out; omega); intro v359 w9 ho hb hg hat; rw [← Ny358.out] at ho; have n0_ := Aside0.mk (Kd.R_over' (zr HO_4.out) (Kd.R_typed (zr HO_3.out)) (by decide) hg); have n1_ := Aside0.mk (hb); have n2_ := Aside0.mk (ho); clear HO_4; clear HB; clear HO_3; have HO_4 := n0_; have HB := n1_; have HO360 := n2_; clear n0_ n1_ n2_; clear ho hb hg hat))
        go_roundg k1
        case measure => have := HK1.out; omega
        case rel => exact ⟨(y358), (wrap64 (x5_1 + 1)), zt, H', ⟨by have := HK1.out; omega⟩, ⟨zr HO360.out⟩, ⟨zr HO_4.out⟩, ⟨zb⟩⟩
       ·rw [if_neg c7] at H
        exact absurd H (by simp)
      ·rw [if_neg c6] at H
       have c6b0 : (((rdC t353 x5_1).kind) == a0) = false := beq_eq_false_iff_ne.mpr c6
       have c6b1 : (((rdC t353 x5_1).kind) != a0) = true := bne_iff_ne.mpr c6
       have H' := Aside0.mk H
       clear H
       obtain ⟨Ao10, co10, eo10⟩ := Kd.R_slice HO_4.out
       subst eo10
       have p356 : 0 ≤ (x5_1 : Int) := of_decide_eq_true (by first | (with_reducible assumption) | assumption)
       have q356 : x5_1 < (t353.length : Int) := of_decide_eq_true (by first | (with_reducible assumption) | assumption)
       obtain ⟨ad356, e356, hx356_0, hx356_1, hx356_2, hx356_3, hx356_4⟩ := atC (Kd.R_reads' HO_4.out).2.2 x5_1 p356 q356
       cases e356
       replace p356 := eq_true p356
       replace q356 := eq_true q356
       go_wp2
       go_roundg k1
       case measure => have := HK1.out; omega
       case rel => exact ⟨(x3_1), (wrap64 (x5_1 + 1)), zt, H', ⟨by have := HK1.out; omega⟩, ⟨zr HO_3.out⟩, ⟨zr HO_4.out⟩, ⟨zb⟩⟩
     ·rw [if_neg c5] at H
      exact absurd H (by simp)
    ·rw [if_neg c4] at H
     have c4b0 : decide (x5_1 < (t353.length : Int)) = false := decide_eq_false c4
     clear c4
     obtain rfl := Option.some.inj H
     obtain ⟨Ao11, co11, eo11⟩ := Kd.R_slice HO_4.out
     subst eo11
     go_wp2
     go_ret
     exact ⟨_, ze, by (with_reducible repeat (first | apply Kd.R_alloc | apply Kd.R_drewN | apply Kd.R_drew)); exact HO_3.out, zb⟩
set_option maxHeartbeats 8000000 in
set_option maxRecDepth 100000 in
theorem polyglotref16_Of.calls (k : Nat) (a0 : Int) (r1 : Int) (r2 : Int) (r3 : Int) (r4 : Bool) (r5 : Bool) (r6 : Bool) (w : World) (h : polyglotref16_Of.f k a0 = some (r1, r2, r3, r4, r5, r6)) :
    Calls Tryd.prog 40 #[.int .i64 a0] w fun e w' => e = .returned (.tuple #[.agg #[.int .i64 r1, .int .i64 r2, .int .i64 r3, .bool r4, .bool r5], .bool r6]) ∧ Below w.heap.size w w' := by
  have hu34 := Tryd.underlying34
  have HB := Aside0.mk (Below.refl w.heap.size w)
  have H : ((polyglotref16_table.f).bind fun t362 => (polyglotref16_Of.l0 k a0 t362 0)) = some (r1, r2, r3, r4, r5, r6) := h
  clear h
  obtain ⟨t362, A2, H⟩ := zbd H
  have H' := Aside0.mk H
  clear H
  go_enter Tryd.func40, Tryd.ntmps40
  go_wp2_with (first | ((with_reducible refine gate_dst (N := 2) rfl ?_); refine box_event rfl (N := 2) rfl (cs := #[.int .i64 0, .int .i64 0, .int .i64 0, .bool false, .bool false]) (t := 34) zh ?_; intro gb361 hg w3 hbox hb; have BK361 := Aside0.mk (hbox); have GW361 := Aside0.mk ((zge (w := w) hg)); have GE361 := Aside0.mk ((zge (w := w) hg)); replace HB := Aside0.mk (below_step zb hb); clear hb hbox hg) | ((with_reducible refine gate_callee (f := 101) rfl ?_); refine goesL_ (some 6) rfl rfl Tryd.func101 (by kernel_rfl) rfl #[] rfl za ?_; (with_reducible refine (polyglotref16_table.calls  t362 _ A2.out).mono ?_); rintro e w4 ⟨v363, rfl, ho0, hb⟩; refine ⟨_, rfl, ?_⟩; have HO364 := Aside0.mk (Kd.R_lower (Kd.R_newB ho0 (g := gb361) (o := .cells #[.int .i64 0, .int .i64 0, .int .i64 0, .bool false, .bool false] 34 (0, 0)) (zk BK361.out)) (below_size zb)); replace BK361 := Aside0.mk (zbb BK361.out hb); replace HB := Aside0.mk (below_step zb hb); (try clear hb); (try clear hb2); (try clear hk); (try clear hi); (try clear ho0)))
  go_loopg [5] k (fun kq v5 w' => ∃ (x5_1 : Int) (x362000_1 : Int) (x362001_1 : Int) (x362002_1 : Int) (x362003_1 : Bool) (x362004_1 : Bool), v5 = .int .i64 x5_1 ∧ Aside0 (polyglotref16_Of.l0 kq a0 t362 x5_1 = some (r1, r2, r3, r4, r5, r6)) ∧ Aside0 (kq ≤ k) ∧ Aside0 (Kd.R kC 34 w' w.heap.size (fun k_ => k_ ≠ gb361) v363 t362) ∧ Aside0 (w'.heap[gb361]? = some (.cells #[.int .i64 x362000_1, .int .i64 x362001_1, .int .i64 x362002_1, .bool x362003_1, .bool x362004_1] 34 (0, 0))) ∧ Aside0 (Below w.heap.size w w'))
  case atStart => exact ⟨(0), (0), (0), (0), (false), (false), zt, H', ⟨Nat.le_refl _⟩, ⟨by (with_reducible repeat (first | apply Kd.R_alloc | apply Kd.R_drewN | apply Kd.R_drew)); exact Kd.R_mono HO364.out (fun _ hk => hk.2)⟩, ⟨zk BK361.out⟩, ⟨zb⟩⟩
  case round =>
   clear H'
   obtain ⟨x5_1, x362000_1, x362001_1, x362002_1, x362003_1, x362004_1, rfl, HA, HK1, HO_4, BK361, HB⟩ := hrel
   cases gk with
   | zero => exact absurd HA.out (by simp [polyglotref16_Of.l0])
   | succ k1 =>
    have H := HA.out
    clear HA
    simp only [polyglotref16_Of.l0] at H
    by_cases c5 : x5_1 < (t362.length : Int)
    ·rw [if_pos c5] at H
     have c5b0 : decide (x5_1 < (t362.length : Int)) = true := decide_eq_true c5
     clear c5
     by_cases c6 : 0 ≤ x5_1
     ·rw [if_pos c6] at H
      have c6b0 : decide (0 ≤ x5_1) = true := decide_eq_true c6
      clear c6
      by_cases c7 : ((rdC t362 x5_1).code) = a0
      ·rw [if_pos c7] at H
       have c7b0 : (((rdC t362 x5_1).code) == a0) = true := beq_iff_eq.mpr c7
       have c7b1 : (((rdC t362 x5_1).code) != a0) = false := bne_eq_false_iff_eq.mpr c7
       clear c7
       simp only [Option.some.injEq, Prod.mk.injEq] at H
       obtain ⟨rfl, rfl, rfl, rfl, rfl, rfl⟩ := H
       obtain ⟨Ao8, co8, eo8⟩ := Kd.R_slice HO_4.out
       subst eo8
       have p365 : 0 ≤ (x5_1 : Int) := of_decide_eq_true (by first | (with_reducible assumption) | assumption)
       have q365 : x5_1 < (t362.length : Int) := of_decide_eq_true (by first | (with_reducible assumption) | assumption)
       obtain ⟨ad365, e365, hx365_0, hx365_1, hx365_2, hx365_3, hx365_4⟩ := atC (Kd.R_reads' HO_4.out).2.2 x5_1 p365 q365
       cases e365
       replace p365 := eq_true p365
       replace q365 := eq_true q365
       have p366 : 0 ≤ (x5_1 : Int) := of_decide_eq_true (by first | (with_reducible assumption) | assumption)
       have q366 : x5_1 < (t362.length : Int) := of_decide_eq_true (by first | (with_reducible assumption) | assumption)
       obtain ⟨ad366, e366, hx366_0, hx366_1, hx366_2, hx366_3, hx366_4⟩ := atC (Kd.R_reads' HO_4.out).2.2 x5_1 p366 q366
       obtain rfl : ad365 = ad366 := (by injection e366)
       replace p366 := eq_true p366
       replace q366 := eq_true q366
       obtain ⟨hcz9_0, hcz9_1, hcz9_2, hcz9_3, hcz9_4, hfz9_0, hfz9_1, hfz9_2, hfz9_3, hfz9_4⟩ := cz5 BK361.out
       go_wp2
       refine bodyPost_ret (results_ct rfl _ _ gb361 34 #[.int .i64 ((rdC t362 x5_1).code), .int .i64 ((rdC t362 x5_1).kind), .int .i64 ((rdC t362 x5_1).width), .bool ((rdC t362 x5_1).sized), .bool ((rdC t362 x5_1).items)] (0, 0) _ rfl (zp5 BK361.out _ _ _ _ _) Tryd.underlying34 rfl (by kernel_rfl)) rfl ?_
       exact ⟨ze, zb⟩
      ·rw [if_neg c7] at H
       have c7b0 : (((rdC t362 x5_1).code) == a0) = false := beq_eq_false_iff_ne.mpr c7
       have c7b1 : (((rdC t362 x5_1).code) != a0) = true := bne_iff_ne.mpr c7
       have H' := Aside0.mk H
       clear H
       obtain ⟨Ao10, co10, eo10⟩ := Kd.R_slice HO_4.out
       subst eo10
       have p365 : 0 ≤ (x5_1 : Int) := of_decide_eq_true (by first | (with_reducible assumption) | assumption)
       have q365 : x5_1 < (t362.length : Int) := of_decide_eq_true (by first | (with_reducible assumption) | assumption)
       obtain ⟨ad365, e365, hx365_0, hx365_1, hx365_2, hx365_3, hx365_4⟩ := atC (Kd.R_reads' HO_4.out).2.2 x5_1 p365 q365
       cases e365
       replace p365 := eq_true p365
       replace q365 := eq_true q365
       go_wp2
       go_roundg k1
       case measure => have := HK1.out; omega
       case rel => exact ⟨(wrap64 (x5_1 + 1)), (x362000_1), (x362001_1), (x362002_1), (x362003_1), (x362004_1), zt, H', ⟨by have := HK1.out; omega⟩, ⟨zr HO_4.out⟩, ⟨zk BK361.out⟩, ⟨zb⟩⟩
     ·rw [if_neg c6] at H
      exact absurd H (by simp)
    ·rw [if_neg c5] at H
     have c5b0 : decide (x5_1 < (t362.length : Int)) = false := decide_eq_false c5
     clear c5
     simp only [Option.some.injEq, Prod.mk.injEq] at H
     obtain ⟨rfl, rfl, rfl, rfl, rfl, rfl⟩ := H
     obtain ⟨Ao11, co11, eo11⟩ := Kd.R_slice HO_4.out
     subst eo11
     obtain ⟨hcz12_0, hcz12_1, hcz12_2, hcz12_3, hcz12_4, hfz12_0, hfz12_1, hfz12_2, hfz12_3, hfz12_4⟩ := cz5 BK361.out
     go_wp2
     refine bodyPost_ret (results_ct rfl _ _ gb361 34 #[.int .i64 0, .int .i64 0, .int .i64 0, .bool false, .bool false] (0, 0) _ rfl (zp5 BK361.out _ _ _ _ _) Tryd.underlying34 rfl (by kernel_rfl)) rfl ?_
     exact ⟨ze, zb⟩
end Go.Proofs.YtekpofpgkokoiaaDoor.Q
