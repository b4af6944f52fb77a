/- A part of this claim: what its theorem leans on. -/
import Derived.Test.YtekpofpgkokoiaaDoorZQ0
import Derived.Test.YtekpofpgkokoiaaDoorZQamqvalueaD
namespace Go.Proofs.YtekpofpgkokoiaaDoor.Q
open Go.RowKit Go.Proofs.YtekpofpgkokoiaaDoor.M Go.Proofs.YtekpofpgkokoiaaDoorW.PrintWords Go.Proofs.YtekpofpgkokoiaaDoorW.PrintLast Go.Proofs.YtekpofpgkokoiaaDoorW.PrintMore
attribute [local go_sem] max2_int min2_int max_two min_two max_three min_three max_four min_four
set_option linter.unusedVariables false
set_option linter.unusedSimpArgs false
def amqvalue_Same.T6 : Bool × List (List Nat × List Nat) := (true, [([], []), ([0], [0]), ([], []), ([1, 2], [1, 2]), ([3], [3]), ([], []), ([5], [5]), ([], []), ([6, 7], [6, 7]), ([8], [8]), ([4, 9], [4, 9]), ([10], [10])])
def amqvalue_Same.B6 : List Nat := [0, 1, 0, 7, 15, 0, 32, 0, 224, 480, 1023, 2047]
theorem amqvalue_Same.tab6 : rtab .any (opsOf Tryd.f32 6) = amqvalue_Same.T6 := by kernel_rfl
theorem amqvalue_Same.bits6 : waitsOk amqvalue_Same.T6.2 amqvalue_Same.B6 = true := by kernel_rfl
set_option maxHeartbeats 8000000 in
set_option maxRecDepth 100000 in
theorem amqvalue_Same.calls (k : Nat) : ∀ (a0_0 : Int) (a0_1 : Int) (a0_2 : ByteArray) (A0_3 : Option Addr) (c0_3 : Nat) (l0_3 : List (Vl)) (a1_0 : Int) (a1_1 : Int) (a1_2 : ByteArray) (A1_3 : Option Addr) (c1_3 : Nat) (l1_3 : List (Vl)) (r : Bool) (w : World) (hr0_3 : Kd.C kV w A0_3 l0_3.length l0_3) (hc0_3 : l0_3.length ≤ c0_3) (hr1_3 : Kd.C kV w A1_3 l1_3.length l1_3) (hc1_3 : l1_3.length ≤ c1_3) (h : amqvalue_Same.f k a0_0 a0_1 a0_2 l0_3 a1_0 a1_1 a1_2 l1_3 = some r),
    Calls Tryd.prog 32 #[.agg #[.int .i64 a0_0, .int .u64 a0_1, .string a0_2, .slice A0_3 l0_3.length c0_3], .agg #[.int .i64 a1_0, .int .u64 a1_1, .string a1_2, .slice A1_3 l1_3.length c1_3]] w fun e w' => e = .returned (.bool r) ∧ Below w.heap.size w w' := by
  induction k using Nat.strongRecOn with
  | _ k ih =>
  intro a0_0 a0_1 a0_2 A0_3 c0_3 l0_3 a1_0 a1_1 a1_2 A1_3 c1_3 l1_3 r w hr0_3 hc0_3 hr1_3 hc1_3 h
  cases k with
  | zero => exact absurd h (by simp [amqvalue_Same.f])
  | succ k =>
  simp only [amqvalue_Same.f] at h
  have hu25 := Tryd.underlying25
  have HR0_3 := Aside0.mk hr0_3
  have HC0_3 := Aside0.mk hc0_3
  clear hr0_3 hc0_3
  have HR1_3 := Aside0.mk hr1_3
  have HC1_3 := Aside0.mk hc1_3
  clear hr1_3 hc1_3
  have HB := Aside0.mk (Below.refl w.heap.size w)
  have H : (if a0_0 = a1_0 then (if a0_1 = a1_1 then (if a0_2.toList = a1_2.toList then (amqvalue_Same.j0 k ((l0_3.length : Int) != (l1_3.length : Int)) a0_0 a0_1 a0_2 l0_3 a1_0 a1_1 a1_2 l1_3) else (amqvalue_Same.j0 k true a0_0 a0_1 a0_2 l0_3 a1_0 a1_1 a1_2 l1_3)) else (amqvalue_Same.j0 k true a0_0 a0_1 a0_2 l0_3 a1_0 a1_1 a1_2 l1_3)) else (amqvalue_Same.j0 k true a0_0 a0_1 a0_2 l0_3 a1_0 a1_1 a1_2 l1_3)) = some r := h
  clear h
  have HC3 := Aside0.mk H
  clear H
  go_enter Tryd.func32, Tryd.ntmps32
  go_upto_region 1 with (first | ((with_reducible refine gate_dst (N := 2) rfl ?_); (try (refine gate_guard (by rfl) ?_; dsimp only)); refine box_event ?hg (N := 2) ?hd (cs := #[.int .i64 a0_0, .int .u64 a0_1, .string a0_2, .slice A0_3 l0_3.length c0_3]) (t := 25) ?hr ?_; (case hd => rfl); (case hg => rfl); (case hr => first | (go_simp; done) | (go_simp; rfl)); intro gb501 hg w4 hbox hb; have n0_ := Aside0.mk (below_step (by repeat (first | (with_reducible first | exact HB.out | apply below_alloc | apply pw_below_drewN | apply below_drew1) | exact HB.out)) hb); have n1_ := Aside0.mk (hbox); have n2_ := Aside0.mk ((by rw [hg]; exact (below_size (by repeat (first | (with_reducible first | exact HB.out | apply below_alloc | apply pw_below_drewN | apply below_drew1) | exact HB.out))) : w.heap.size ≤ gb501)); have n3_ := Aside0.mk ((by rw [hg]; exact (below_size (by repeat (first | (with_reducible first | exact HB.out | apply below_alloc | apply pw_below_drewN | apply below_drew1) | exact HB.out))) : w.heap.size ≤ gb501)); clear HB; have HB := n0_; have BK501 := n1_; have GW501 := n2_; have GE501 := n3_; clear n0_ n1_ n2_ n3_; clear hb hbox hg) | ((with_reducible refine gate_dst (N := 3) rfl ?_); (try (refine gate_guard (by rfl) ?_; dsimp only)); refine box_event ?hg (N := 3) ?hd (cs := #[.int .i64 a1_0, .int .u64 a1_1, .string a1_2, .slice A1_3 l1_3.length c1_3]) (t := 25) ?hr ?_; (case hd => rfl); (case hg => rfl); (case hr => first | (go_simp; done) | (go_simp; rfl)); intro gb502 hg w5 hbox hb; have n0_ := Aside0.mk (blk_below (g := gb501) (o := .cells #[.int .i64 a0_0, .int .u64 a0_1, .string a0_2, .slice A0_3 l0_3.length c0_3] 25 (0, 0)) (by (with_reducible repeat (first | refine blk_drewN ?_ _ | refine blk_drew ?_ | refine blk_alloc ?_ _)); exact BK501.out) hb); have n1_ := Aside0.mk (below_step (by repeat (first | (with_reducible first | exact HB.out | apply below_alloc | apply pw_below_drewN | apply below_drew1 | refine below_set ?_ GE501.out) | exact HB.out)) hb); have n2_ := Aside0.mk (hbox); have n3_ := Aside0.mk ((by rw [hg]; exact (below_size (by repeat (first | (with_reducible first | exact HB.out | apply below_alloc | apply pw_below_drewN | apply below_drew1 | refine below_set ?_ GE501.out) | exact HB.out))) : w.heap.size ≤ gb502)); have n4_ := Aside0.mk ((by rw [hg]; exact (below_size (by repeat (first | (with_reducible first | exact HB.out | apply below_alloc | apply pw_below_drewN | apply below_drew1 | refine below_set ?_ GE501.out) | exact HB.out))) : w.heap.size ≤ gb502)); have n5_ := Aside0.mk ((by rw [hg]; exact Nat.ne_of_lt (blk_lt (g := gb501) (o := .cells #[.int .i64 a0_0, .int .u64 a0_1, .string a0_2, .slice A0_3 l0_3.length c0_3] 25 (0, 0)) (by (with_reducible repeat (first | refine blk_drewN ?_ _ | refine blk_drew ?_ | refine blk_alloc ?_ _)); exact BK501.out)) : gb501 ≠ gb502)); have n6_ := Aside0.mk ((by rw [hg]; exact Nat.ne_of_gt (blk_lt (g := gb501) (o := .cells #[.int .i64 a0_0, .int .u64 a0_1, .string a0_2, .slice A0_3 l0_3.length c0_3] 25 (0, 0)) (by (with_reducible repeat (first | refine blk_drewN ?_ _ | refine blk_drew ?_ | refine blk_alloc ?_ _)); exact BK501.out)) : gb502 ≠ gb501)); clear BK501; clear HB; have BK501 := n0_; have HB := n1_; have BK502 := n2_; have GW502 := n3_; have GE502 := n4_; have NB501_502 := n5_; have NB502_501 := n6_; clear n0_ n1_ n2_ n3_ n4_ n5_ n6_; clear hb hbox hg))
  (try simp only [Act.put, List.setIfInBounds_toArray, List.set_cons_zero, List.set_cons_succ])
  go_cut [33] (fun v33 wc => ∃ (kq : Nat) (x33_2 : Bool), v33 = .bool x33_2 ∧ Aside0 (amqvalue_Same.j0 kq x33_2 a0_0 a0_1 a0_2 l0_3 a1_0 a1_1 a1_2 l1_3 = some r) ∧ Aside0 (kq ≤ k) ∧ Aside0 (wc.heap[gb501]? = some (.cells #[.int .i64 a0_0, .int .u64 a0_1, .string a0_2, (.slice A0_3 l0_3.length c0_3)] 25 (0, 0))) ∧ Aside0 (wc.heap[gb502]? = some (.cells #[.int .i64 a1_0, .int .u64 a1_1, .string a1_2, (.slice A1_3 l1_3.length c1_3)] 25 (0, 0))) ∧ Aside0 (Below w.heap.size w wc))
  case first =>
   have H := HC3.out
   clear HC3
   by_cases c6 : a0_0 = a1_0
   ·rw [if_pos c6] at H
    have c6b0 : (a0_0 == a1_0) = true := beq_iff_eq.mpr c6
    have c6b1 : (a0_0 != a1_0) = false := bne_eq_false_iff_eq.mpr c6
    clear c6
    (first | rw [c6b0] | (simp only [i64_w, i32_w]; rw [c6b0]) | skip)
    by_cases c7 : a0_1 = a1_1
    ·rw [if_pos c7] at H
     have c7b0 : (a0_1 == a1_1) = true := beq_iff_eq.mpr c7
     have c7b1 : (a0_1 != a1_1) = false := bne_eq_false_iff_eq.mpr c7
     clear c7
     by_cases c8 : a0_2.toList = a1_2.toList
     ·rw [if_pos c8] at H
      have c8b0 : (a0_2.toList == a1_2.toList) = true := beq_iff_eq.mpr c8
      have c8b1 : (a0_2.toList != a1_2.toList) = false := bne_eq_false_iff_eq.mpr c8
      clear c8
      have H' := Aside0.mk H
      clear H
      have hnb9 := NB501_502.out
      have hnc9 := NB502_501.out
      have hcz10_0 : w5.cell? ⟨gb501, 0, none⟩ = some (.int .i64 a0_0) := (blk_cell BK501.out 0).trans rfl
      have hcz10_1 : w5.cell? ⟨gb501, 1, none⟩ = some (.int .u64 a0_1) := (blk_cell BK501.out 1).trans rfl
      have hcz10_2 : w5.cell? ⟨gb501, 2, none⟩ = some (.string a0_2) := (blk_cell BK501.out 2).trans rfl
      have hcz10_3 : w5.cell? ⟨gb501, 3, none⟩ = some (.slice A0_3 l0_3.length c0_3) := (blk_cell BK501.out 3).trans rfl
      have hfz10_0 := blk_frozen BK501.out 0
      have hfz10_1 := blk_frozen BK501.out 1
      have hfz10_2 := blk_frozen BK501.out 2
      have hfz10_3 := blk_frozen BK501.out 3
      have hcz11_0 : w5.cell? ⟨gb502, 0, none⟩ = some (.int .i64 a1_0) := (blk_cell BK502.out 0).trans rfl
      have hcz11_1 : w5.cell? ⟨gb502, 1, none⟩ = some (.int .u64 a1_1) := (blk_cell BK502.out 1).trans rfl
      have hcz11_2 : w5.cell? ⟨gb502, 2, none⟩ = some (.string a1_2) := (blk_cell BK502.out 2).trans rfl
      have hcz11_3 : w5.cell? ⟨gb502, 3, none⟩ = some (.slice A1_3 l1_3.length c1_3) := (blk_cell BK502.out 3).trans rfl
      have hfz11_0 := blk_frozen BK502.out 0
      have hfz11_1 := blk_frozen BK502.out 1
      have hfz11_2 := blk_frozen BK502.out 2
      have hfz11_3 := blk_frozen BK502.out 3
      go_wp2
      go_meet
      case rel => exact ⟨_, (((l0_3.length : Int) != (l1_3.length : Int))), (by first | rfl | (simp; done) | (simp [*]; done)), H', ⟨by first | omega | exact Nat.le_refl _⟩, ⟨by (with_reducible repeat (first | refine blk_drewN ?_ _ | refine blk_drew ?_ | refine blk_alloc ?_ _)); exact BK501.out⟩, ⟨by (with_reducible repeat (first | refine blk_drewN ?_ _ | refine blk_drew ?_ | refine blk_alloc ?_ _)); exact BK502.out⟩, ⟨by repeat (first | (with_reducible first | exact HB.out | apply below_alloc | apply pw_below_drewN | apply below_drew1 | refine below_set ?_ GE501.out | refine below_set ?_ GE502.out) | exact HB.out)⟩⟩
     ·rw [if_neg c8] at H
      have c8b0 : (a0_2.toList == a1_2.toList) = false := beq_eq_false_iff_ne.mpr c8
      have c8b1 : (a0_2.toList != a1_2.toList) = true := bne_iff_ne.mpr c8
      have H' := Aside0.mk H
      clear H
      have hnb12 := NB501_502.out
      have hnc12 := NB502_501.out
      have hcz13_0 : w5.cell? ⟨gb501, 0, none⟩ = some (.int .i64 a0_0) := (blk_cell BK501.out 0).trans rfl
      have hcz13_1 : w5.cell? ⟨gb501, 1, none⟩ = some (.int .u64 a0_1) := (blk_cell BK501.out 1).trans rfl
      have hcz13_2 : w5.cell? ⟨gb501, 2, none⟩ = some (.string a0_2) := (blk_cell BK501.out 2).trans rfl
      have hcz13_3 : w5.cell? ⟨gb501, 3, none⟩ = some (.slice A0_3 l0_3.length c0_3) := (blk_cell BK501.out 3).trans rfl
      have hfz13_0 := blk_frozen BK501.out 0
      have hfz13_1 := blk_frozen BK501.out 1
      have hfz13_2 := blk_frozen BK501.out 2
      have hfz13_3 := blk_frozen BK501.out 3
      have hcz14_0 : w5.cell? ⟨gb502, 0, none⟩ = some (.int .i64 a1_0) := (blk_cell BK502.out 0).trans rfl
      have hcz14_1 : w5.cell? ⟨gb502, 1, none⟩ = some (.int .u64 a1_1) := (blk_cell BK502.out 1).trans rfl
      have hcz14_2 : w5.cell? ⟨gb502, 2, none⟩ = some (.string a1_2) := (blk_cell BK502.out 2).trans rfl
      have hcz14_3 : w5.cell? ⟨gb502, 3, none⟩ = some (.slice A1_3 l1_3.length c1_3) := (blk_cell BK502.out 3).trans rfl
      have hfz14_0 := blk_frozen BK502.out 0
      have hfz14_1 := blk_frozen BK502.out 1
      have hfz14_2 := blk_frozen BK502.out 2
      have hfz14_3 := blk_frozen BK502.out 3
      go_wp2
      go_meet
      case rel => exact ⟨_, (true), (by first | rfl | (simp; done) | (simp [*]; done)), H', ⟨by first | omega | exact Nat.le_refl _⟩, ⟨by (with_reducible repeat (first | refine blk_drewN ?_ _ | refine blk_drew ?_ | refine blk_alloc ?_ _)); exact BK501.out⟩, ⟨by (with_reducible repeat (first | refine blk_drewN ?_ _ | refine blk_drew ?_ | refine blk_alloc ?_ _)); exact BK502.out⟩, ⟨by repeat (first | (with_reducible first | exact HB.out | apply below_alloc | apply pw_below_drewN | apply below_drew1 | refine below_set ?_ GE501.out | refine below_set ?_ GE502.out) | exact HB.out)⟩⟩
    ·rw [if_neg c7] at H
     have c7b0 : (a0_1 == a1_1) = false := beq_eq_false_iff_ne.mpr c7
     have c7b1 : (a0_1 != a1_1) = true := bne_iff_ne.mpr c7
     have H' := Aside0.mk H
     clear H
     have hnb15 := NB501_502.out
     have hnc15 := NB502_501.out
     have hcz16_0 : w5.cell? ⟨gb501, 0, none⟩ = some (.int .i64 a0_0) := (blk_cell BK501.out 0).trans rfl
     have hcz16_1 : w5.cell? ⟨gb501, 1, none⟩ = some (.int .u64 a0_1) := (blk_cell BK501.out 1).trans rfl
     have hcz16_2 : w5.cell? ⟨gb501, 2, none⟩ = some (.string a0_2) := (blk_cell BK501.out 2).trans rfl
     have hcz16_3 : w5.cell? ⟨gb501, 3, none⟩ = some (.slice A0_3 l0_3.length c0_3) := (blk_cell BK501.out 3).trans rfl
     have hfz16_0 := blk_frozen BK501.out 0
     have hfz16_1 := blk_frozen BK501.out 1
     have hfz16_2 := blk_frozen BK501.out 2
     have hfz16_3 := blk_frozen BK501.out 3
     have hcz17_0 : w5.cell? ⟨gb502, 0, none⟩ = some (.int .i64 a1_0) := (blk_cell BK502.out 0).trans rfl
     have hcz17_1 : w5.cell? ⟨gb502, 1, none⟩ = some (.int .u64 a1_1) := (blk_cell BK502.out 1).trans rfl
     have hcz17_2 : w5.cell? ⟨gb502, 2, none⟩ = some (.string a1_2) := (blk_cell BK502.out 2).trans rfl
     have hcz17_3 : w5.cell? ⟨gb502, 3, none⟩ = some (.slice A1_3 l1_3.length c1_3) := (blk_cell BK502.out 3).trans rfl
     have hfz17_0 := blk_frozen BK502.out 0
     have hfz17_1 := blk_frozen BK502.out 1
     have hfz17_2 := blk_frozen BK502.out 2
     have hfz17_3 := blk_frozen BK502.out 3
     go_wp2
     go_meet
     case rel => exact ⟨_, (true), (by first | rfl | (simp; done) | (simp [*]; done)), H', ⟨by first | omega | exact Nat.le_refl _⟩, ⟨by (with_reducible repeat (first | refine blk_drewN ?_ _ | refine blk_drew ?_ | refine blk_alloc ?_ _)); exact BK501.out⟩, ⟨by (with_reducible repeat (first | refine blk_drewN ?_ _ | refine blk_drew ?_ | refine blk_alloc ?_ _)); exact BK502.out⟩, ⟨by repeat (first | (with_reducible first | exact HB.out | apply below_alloc | apply pw_below_drewN | apply below_drew1 | refine below_set ?_ GE501.out | refine below_set ?_ GE502.out) | exact HB.out)⟩⟩
   ·rw [if_neg c6] at H
    have c6b0 : (a0_0 == a1_0) = false := beq_eq_false_iff_ne.mpr c6
    have c6b1 : (a0_0 != a1_0) = true := bne_iff_ne.mpr c6
    (first | rw [c6b0] | (simp only [i64_w, i32_w]; rw [c6b0]) | skip)
    have H' := Aside0.mk H
    clear H
    have hnb18 := NB501_502.out
    have hnc18 := NB502_501.out
    have hcz19_0 : w5.cell? ⟨gb501, 0, none⟩ = some (.int .i64 a0_0) := (blk_cell BK501.out 0).trans rfl
    have hcz19_1 : w5.cell? ⟨gb501, 1, none⟩ = some (.int .u64 a0_1) := (blk_cell BK501.out 1).trans rfl
    have hcz19_2 : w5.cell? ⟨gb501, 2, none⟩ = some (.string a0_2) := (blk_cell BK501.out 2).trans rfl
    have hcz19_3 : w5.cell? ⟨gb501, 3, none⟩ = some (.slice A0_3 l0_3.length c0_3) := (blk_cell BK501.out 3).trans rfl
    have hfz19_0 := blk_frozen BK501.out 0
    have hfz19_1 := blk_frozen BK501.out 1
    have hfz19_2 := blk_frozen BK501.out 2
    have hfz19_3 := blk_frozen BK501.out 3
    have hcz20_0 : w5.cell? ⟨gb502, 0, none⟩ = some (.int .i64 a1_0) := (blk_cell BK502.out 0).trans rfl
    have hcz20_1 : w5.cell? ⟨gb502, 1, none⟩ = some (.int .u64 a1_1) := (blk_cell BK502.out 1).trans rfl
    have hcz20_2 : w5.cell? ⟨gb502, 2, none⟩ = some (.string a1_2) := (blk_cell BK502.out 2).trans rfl
    have hcz20_3 : w5.cell? ⟨gb502, 3, none⟩ = some (.slice A1_3 l1_3.length c1_3) := (blk_cell BK502.out 3).trans rfl
    have hfz20_0 := blk_frozen BK502.out 0
    have hfz20_1 := blk_frozen BK502.out 1
    have hfz20_2 := blk_frozen BK502.out 2
    have hfz20_3 := blk_frozen BK502.out 3
    go_wp2
    go_meet
    case rel => exact ⟨_, (true), (by first | rfl | (simp; done) | (simp [*]; done)), H', ⟨by first | omega | exact Nat.le_refl _⟩, ⟨by (with_reducible repeat (first | refine blk_drewN ?_ _ | refine blk_drew ?_ | refine blk_alloc ?_ _)); exact BK501.out⟩, ⟨by (with_reducible repeat (first | refine blk_drewN ?_ _ | refine blk_drew ?_ | refine blk_alloc ?_ _)); exact BK502.out⟩, ⟨by repeat (first | (with_reducible first | exact HB.out | apply below_alloc | apply pw_below_drewN | apply below_drew1 | refine below_set ?_ GE501.out | refine below_set ?_ GE502.out) | exact HB.out)⟩⟩
  case rest =>
   clear HC3
   try clear c1
   try clear p2
   try clear c3
   try clear c6
   try clear c6b0
   try clear c6b1
   try clear c7
   try clear c7b0
   try clear c7b1
   try clear c8
   try clear c8b0
   try clear c8b1
   try clear c9
   try clear c12
   try clear c15
   try clear c18
   try clear hcz10_0
   try clear hcz10_1
   try clear hcz10_2
   try clear hcz10_3
   try clear hcz11_0
   try clear hcz11_1
   try clear hcz11_2
   try clear hcz11_3
   try clear hcz13_0
   try clear hcz13_1
   try clear hcz13_2
   try clear hcz13_3
   try clear hcz14_0
   try clear hcz14_1
   try clear hcz14_2
   try clear hcz14_3
   try clear hcz16_0
   try clear hcz16_1
   try clear hcz16_2
   try clear hcz16_3
   try clear hcz17_0
   try clear hcz17_1
   try clear hcz17_2
   try clear hcz17_3
   try clear hcz19_0
   try clear hcz19_1
   try clear hcz19_2
   try clear hcz19_3
   try clear hcz20_0
   try clear hcz20_1
   try clear hcz20_2
   try clear hcz20_3
   try clear hfz10_0
   try clear hfz10_1
   try clear hfz10_2
   try clear hfz10_3
   try clear hfz11_0
   try clear hfz11_1
   try clear hfz11_2
   try clear hfz11_3
   try clear hfz13_0
   try clear hfz13_1
   try clear hfz13_2
   try clear hfz13_3
   try clear hfz14_0
   try clear hfz14_1
   try clear hfz14_2
   try clear hfz14_3
   try clear hfz16_0
   try clear hfz16_1
   try clear hfz16_2
   try clear hfz16_3
   try clear hfz17_0
   try clear hfz17_1
   try clear hfz17_2
   try clear hfz17_3
   try clear hfz19_0
   try clear hfz19_1
   try clear hfz19_2
   try clear hfz19_3
   try clear hfz20_0
   try clear hfz20_1
   try clear hfz20_2
   try clear hfz20_3
   obtain ⟨kq, x33_2, rfl, HA, HJ2, BK501, BK502, HB⟩ := hcut
   cases kq with
   | zero => exact absurd HA.out (by simp [amqvalue_Same.j0])
   | succ kj2 =>
    have H := HA.out
    clear HA
    simp only [amqvalue_Same.j0] at H
    by_cases c21 : x33_2 = true
    ·subst c21
     have H1 : (some false) = some r := by rw [if_pos rfl] at H; exact H
     clear H
     have H := H1
     clear H1
     obtain rfl := Option.some.inj H
     go_wp2
     go_ret
     exact ⟨by first | rfl | (simp [errW_none, errW_some] <;> rfl) | (simp [*, errW_none, errW_some] <;> rfl), by repeat (first | (with_reducible first | exact HB.out | apply below_alloc | apply pw_below_drewN | apply below_drew1 | refine below_set ?_ GE501.out | refine below_set ?_ GE502.out) | exact HB.out)⟩
    ·replace c21 := Bool.eq_false_iff.mpr c21
     subst c21
     have H1 : (amqvalue_Same.l0 kj2 (l0_3.length : Int) 0 a0_0 a0_1 a0_2 l0_3 a1_0 a1_1 a1_2 l1_3) = some r := by rw [if_neg (show ¬ (false = true) by decide)] at H; exact H
     clear H
     have H := H1
     clear H1
     have H' := Aside0.mk H
     clear H
     have hnb22 := NB501_502.out
     have hnc22 := NB502_501.out
     have hcz23_0 : wc.cell? ⟨gb501, 0, none⟩ = some (.int .i64 a0_0) := (blk_cell BK501.out 0).trans rfl
     have hcz23_1 : wc.cell? ⟨gb501, 1, none⟩ = some (.int .u64 a0_1) := (blk_cell BK501.out 1).trans rfl
     have hcz23_2 : wc.cell? ⟨gb501, 2, none⟩ = some (.string a0_2) := (blk_cell BK501.out 2).trans rfl
     have hcz23_3 : wc.cell? ⟨gb501, 3, none⟩ = some (.slice A0_3 l0_3.length c0_3) := (blk_cell BK501.out 3).trans rfl
     have hfz23_0 := blk_frozen BK501.out 0
     have hfz23_1 := blk_frozen BK501.out 1
     have hfz23_2 := blk_frozen BK501.out 2
     have hfz23_3 := blk_frozen BK501.out 3
     go_wp2
     go_loopg [37] kj2 (fun kq v37 w' => ∃ (x37_2 : Int), v37 = .int .i64 x37_2 ∧ Aside0 (amqvalue_Same.l0 kq (l0_3.length : Int) x37_2 a0_0 a0_1 a0_2 l0_3 a1_0 a1_1 a1_2 l1_3 = some r) ∧ Aside0 (kq ≤ kj2) ∧ Aside0 (w'.heap[gb501]? = some (.cells #[.int .i64 a0_0, .int .u64 a0_1, .string a0_2, (.slice A0_3 l0_3.length c0_3)] 25 (0, 0))) ∧ Aside0 (w'.heap[gb502]? = some (.cells #[.int .i64 a1_0, .int .u64 a1_1, .string a1_2, (.slice A1_3 l1_3.length c1_3)] 25 (0, 0))) ∧ Aside0 (Below w.heap.size w w'))
     case atStart => exact ⟨(0), (by first | rfl | (simp; done) | (simp [*]; done)), H', ⟨Nat.le_refl _⟩, ⟨by (with_reducible repeat (first | refine blk_drewN ?_ _ | refine blk_drew ?_ | refine blk_alloc ?_ _)); exact BK501.out⟩, ⟨by (with_reducible repeat (first | refine blk_drewN ?_ _ | refine blk_drew ?_ | refine blk_alloc ?_ _)); exact BK502.out⟩, ⟨by repeat (first | (with_reducible first | exact HB.out | apply below_alloc | apply pw_below_drewN | apply below_drew1 | refine below_set ?_ GE501.out | refine below_set ?_ GE502.out) | exact HB.out)⟩⟩
     case round =>
      clear H'
      try clear c1
      try clear c2
      try clear p2
      try clear c3
      try clear c6
      try clear c6b0
      try clear c6b1
      try clear c7
      try clear c7b0
      try clear c7b1
      try clear c8
      try clear c8b0
      try clear c8b1
      try clear c9
      try clear c12
      try clear c15
      try clear c18
      try clear c21
      try clear c22
      try clear hcz10_0
      try clear hcz10_1
      try clear hcz10_2
      try clear hcz10_3
      try clear hcz11_0
      try clear hcz11_1
      try clear hcz11_2
      try clear hcz11_3
      try clear hcz13_0
      try clear hcz13_1
      try clear hcz13_2
      try clear hcz13_3
      try clear hcz14_0
      try clear hcz14_1
      try clear hcz14_2
      try clear hcz14_3
      try clear hcz16_0
      try clear hcz16_1
      try clear hcz16_2
      try clear hcz16_3
      try clear hcz17_0
      try clear hcz17_1
      try clear hcz17_2
      try clear hcz17_3
      try clear hcz19_0
      try clear hcz19_1
      try clear hcz19_2
      try clear hcz19_3
      try clear hcz20_0
      try clear hcz20_1
      try clear hcz20_2
      try clear hcz20_3
      try clear hcz23_0
      try clear hcz23_1
      try clear hcz23_2
      try clear hcz23_3
      try clear hfz10_0
      try clear hfz10_1
      try clear hfz10_2
      try clear hfz10_3
      try clear hfz11_0
      try clear hfz11_1
      try clear hfz11_2
      try clear hfz11_3
      try clear hfz13_0
      try clear hfz13_1
      try clear hfz13_2
      try clear hfz13_3
      try clear hfz14_0
      try clear hfz14_1
      try clear hfz14_2
      try clear hfz14_3
      try clear hfz16_0
      try clear hfz16_1
      try clear hfz16_2
      try clear hfz16_3
      try clear hfz17_0
      try clear hfz17_1
      try clear hfz17_2
      try clear hfz17_3
      try clear hfz19_0
      try clear hfz19_1
      try clear hfz19_2
      try clear hfz19_3
      try clear hfz20_0
      try clear hfz20_1
      try clear hfz20_2
      try clear hfz20_3
      try clear hfz23_0
      try clear hfz23_1
      try clear hfz23_2
      try clear hfz23_3
      try clear p2
      obtain ⟨x37_2, rfl, HA, HK2, BK501, BK502, HB⟩ := hrel
      cases gk with
      | zero => exact absurd HA.out (by simp [amqvalue_Same.l0])
      | succ k2 =>
       have H := HA.out
       clear HA
       simp only [amqvalue_Same.l0] at H
       by_cases c24 : x37_2 < (l0_3.length : Int)
       ·rw [if_pos c24] at H
        have c24b0 : decide (x37_2 < (l0_3.length : Int)) = true := decide_eq_true c24
        clear c24
        by_cases c25 : 0 ≤ x37_2
        ·rw [if_pos c25] at H
         have c25b0 : decide (0 ≤ x37_2) = true := decide_eq_true c25
         clear c25
         by_cases c26 : x37_2 < (l0_3.length : Int)
         ·rw [if_pos c26] at H
          have c26b0 : decide (x37_2 < (l0_3.length : Int)) = true := decide_eq_true c26
          clear c26
          by_cases c27 : x37_2 < (l1_3.length : Int)
          ·rw [if_pos c27] at H
           have c27b0 : decide (x37_2 < (l1_3.length : Int)) = true := decide_eq_true c27
           clear c27
           replace H := Option.bind_eq_some_iff.mp H
           obtain ⟨t505, A280, H⟩ := H
           replace H : (if t505 = true then (amqvalue_Same.l0 k2 (l0_3.length : Int) (wrap64 (x37_2 + 1)) a0_0 a0_1 a0_2 l0_3 a1_0 a1_1 a1_2 l1_3) else (some false)) = some r := H
           have A28 := Aside0.mk A280
           clear A280
           by_cases c29 : t505 = true
           ·subst c29
            have H1 : (amqvalue_Same.l0 k2 (l0_3.length : Int) (wrap64 (x37_2 + 1)) a0_0 a0_1 a0_2 l0_3 a1_0 a1_1 a1_2 l1_3) = some r := by rw [if_pos rfl] at H; exact H
            clear H
            have H := H1
            clear H1
            have H' := Aside0.mk H
            clear H
            try go_wp2
            have n0_ := Aside0.mk (blk_drew BK501.out)
            have n1_ := Aside0.mk (blk_drew BK502.out)
            have n2_ := Aside0.mk (below_drew1 HB.out)
            clear BK501
            clear BK502
            clear HB
            have BK501 := n0_
            have BK502 := n1_
            have HB := n2_
            clear n0_ n1_ n2_
            have p503 : 0 ≤ (x37_2 : Int) := of_decide_eq_true (by first | (with_reducible assumption) | assumption)
            have q503 : x37_2 < (l0_3.length : Int) := of_decide_eq_true (by first | (with_reducible assumption) | assumption)
            obtain ⟨ad503, A503_3, c503_3, e503, hx503_0, hx503_1, hx503_2, hx503_3, hl503_3, hi503_3⟩ := atV HR0_3.out x37_2 p503 q503
            have hw503_3 := hx503_3
            have hw503_2 := hx503_2
            have hw503_1 := hx503_1
            have hw503_0 := hx503_0
            cases e503
            replace hx503_0 := (HB.out.cell (World.block_lt_of_cell? w _ hx503_0)).trans hx503_0
            replace hx503_1 := (HB.out.cell (World.block_lt_of_cell? w _ hx503_1)).trans hx503_1
            replace hx503_2 := (HB.out.cell (World.block_lt_of_cell? w _ hx503_2)).trans hx503_2
            replace hx503_3 := (HB.out.cell (World.block_lt_of_cell? w _ hx503_3)).trans hx503_3
            have HR503_3 := Aside0.mk hi503_3
            have HC503_3 := Aside0.mk hl503_3
            clear hi503_3 hl503_3
            replace p503 := eq_true p503
            replace q503 := eq_true q503
            have p504 : 0 ≤ (x37_2 : Int) := of_decide_eq_true (by first | (with_reducible assumption) | assumption)
            have q504 : x37_2 < (l1_3.length : Int) := of_decide_eq_true (by first | (with_reducible assumption) | assumption)
            obtain ⟨ad504, A504_3, c504_3, e504, hx504_0, hx504_1, hx504_2, hx504_3, hl504_3, hi504_3⟩ := atV HR1_3.out x37_2 p504 q504
            have hw504_3 := hx504_3
            have hw504_2 := hx504_2
            have hw504_1 := hx504_1
            have hw504_0 := hx504_0
            cases e504
            replace hx504_0 := (HB.out.cell (World.block_lt_of_cell? w _ hx504_0)).trans hx504_0
            replace hx504_1 := (HB.out.cell (World.block_lt_of_cell? w _ hx504_1)).trans hx504_1
            replace hx504_2 := (HB.out.cell (World.block_lt_of_cell? w _ hx504_2)).trans hx504_2
            replace hx504_3 := (HB.out.cell (World.block_lt_of_cell? w _ hx504_3)).trans hx504_3
            have HR504_3 := Aside0.mk hi504_3
            have HC504_3 := Aside0.mk hl504_3
            clear hi504_3 hl504_3
            replace p504 := eq_true p504
            replace q504 := eq_true q504
            refine start_ (n := 12) (S := fun w' => w'.cell? ⟨gb501, 0, none⟩ = some (.int .i64 a0_0) ∧ w'.cell? ⟨gb501, 1, none⟩ = some (.int .u64 a0_1) ∧ w'.cell? ⟨gb501, 2, none⟩ = some (.string a0_2) ∧ w'.cell? ⟨gb501, 3, none⟩ = some (.slice (some ad503) l0_3.length c0_3) ∧ w'.cell? ⟨gb502, 0, none⟩ = some (.int .i64 a1_0) ∧ w'.cell? ⟨gb502, 1, none⟩ = some (.int .u64 a1_1) ∧ w'.cell? ⟨gb502, 2, none⟩ = some (.string a1_2) ∧ w'.cell? ⟨gb502, 3, none⟩ = some (.slice (some ad504) l1_3.length c1_3) ∧ w'.cell? (ad503.add ((x37_2).toNat * 4)) = some (.int .i64 ((rdV l0_3 x37_2).kind)) ∧ w'.cell? ⟨(ad503.add ((x37_2).toNat * 4)).block, (ad503.add ((x37_2).toNat * 4)).off + 1, none⟩ = some (.int .u64 ((rdV l0_3 x37_2).n)) ∧ w'.cell? ⟨(ad503.add ((x37_2).toNat * 4)).block, (ad503.add ((x37_2).toNat * 4)).off + 2, none⟩ = some (.string ((rdV l0_3 x37_2).text)) ∧ w'.cell? ⟨(ad503.add ((x37_2).toNat * 4)).block, (ad503.add ((x37_2).toNat * 4)).off + 3, none⟩ = some (.slice A503_3 ((rdV l0_3 x37_2).items).length c503_3) ∧ w'.cell? (ad504.add ((x37_2).toNat * 4)) = some (.int .i64 ((rdV l1_3 x37_2).kind)) ∧ w'.cell? ⟨(ad504.add ((x37_2).toNat * 4)).block, (ad504.add ((x37_2).toNat * 4)).off + 1, none⟩ = some (.int .u64 ((rdV l1_3 x37_2).n)) ∧ w'.cell? ⟨(ad504.add ((x37_2).toNat * 4)).block, (ad504.add ((x37_2).toNat * 4)).off + 2, none⟩ = some (.string ((rdV l1_3 x37_2).text)) ∧ w'.cell? ⟨(ad504.add ((x37_2).toNat * 4)).block, (ad504.add ((x37_2).toNat * 4)).off + 3, none⟩ = some (.slice A504_3 ((rdV l1_3 x37_2).items).length c504_3)) (ds := []) #[false, false, false, false, false, false, false, false, false, false, false, false] (by kernel_rfl) rfl rfl ⟨(blk_cell BK501.out 0).trans rfl, (blk_cell BK501.out 1).trans rfl, (blk_cell BK501.out 2).trans rfl, (blk_cell BK501.out 3).trans rfl, (blk_cell BK502.out 0).trans rfl, (blk_cell BK502.out 1).trans rfl, (blk_cell BK502.out 2).trans rfl, (blk_cell BK502.out 3).trans rfl, ((HB.out.cell (World.block_lt_of_cell? w _ hw503_0)).trans hw503_0), ((HB.out.cell (World.block_lt_of_cell? w _ hw503_1)).trans hw503_1), ((HB.out.cell (World.block_lt_of_cell? w _ hw503_2)).trans hw503_2), ((HB.out.cell (World.block_lt_of_cell? w _ hw503_3)).trans hw503_3), ((HB.out.cell (World.block_lt_of_cell? w _ hw504_0)).trans hw504_0), ((HB.out.cell (World.block_lt_of_cell? w _ hw504_1)).trans hw504_1), ((HB.out.cell (World.block_lt_of_cell? w _ hw504_2)).trans hw504_2), ((HB.out.cell (World.block_lt_of_cell? w _ hw504_3)).trans hw504_3)⟩ (fun hHeld => ?_); refine with_tabW amqvalue_Same.tab6 amqvalue_Same.bits6 (fun HT_ HW_ => ?_)
            generalize wr.drew = w30 at BK501 BK502 HB HR503_3 HR504_3 hx503_0 hx503_1 hx503_2 hx503_3 hx504_0 hx504_1 hx504_2 hx504_3 hHeld ⊢
            refine pure_ (i := 0) (N := some 40) (v := ?_) (a' := ?_) #[true, false, false, false, false, false, false, false, false, false, false, false] rfl rfl (any_of HT_.out (by kernel_rfl)) (fun _ _ _ h => h) (Or.inl ⟨by rfl, ?_⟩) ?_ ?_
            rotate_left
            ·intro w'
             go_simp
             with_reducible rfl
            rotate_left
            ·simp only [Act.put, List.setIfInBounds_toArray, List.set_cons_zero, List.set_cons_succ, i64_w, i32_w]
             rfl
            refine pure_ (i := 2) (N := some 42) (v := ?_) (a' := ?_) #[true, false, true, false, false, false, false, false, false, false, false, false] rfl rfl (any_of HT_.out (by kernel_rfl)) (fun _ _ _ h => h) (Or.inl ⟨by rfl, ?_⟩) ?_ ?_
            rotate_left
            ·intro w'
             go_simp
             with_reducible rfl
            rotate_left
            ·simp only [Act.put, List.setIfInBounds_toArray, List.set_cons_zero, List.set_cons_succ, i64_w, i32_w]
             rfl
            refine pure_ (i := 5) (N := some 45) (v := ?_) (a' := ?_) #[true, false, true, false, false, true, false, false, false, false, false, false] rfl rfl (any_of HT_.out (by kernel_rfl)) (fun _ _ _ h => h) (Or.inl ⟨by rfl, ?_⟩) ?_ ?_
            rotate_left
            ·intro w'
             go_simp
             with_reducible rfl
            rotate_left
            ·simp only [Act.put, List.setIfInBounds_toArray, List.set_cons_zero, List.set_cons_succ, i64_w, i32_w]
             rfl
            refine pure_ (i := 7) (N := some 47) (v := ?_) (a' := ?_) #[true, false, true, false, false, true, false, true, false, false, false, false] rfl rfl (any_of HT_.out (by kernel_rfl)) (fun _ _ _ h => h) (Or.inl ⟨by rfl, ?_⟩) ?_ ?_
            rotate_left
            ·intro w'
             go_simp
             with_reducible rfl
            rotate_left
            ·simp only [Act.put, List.setIfInBounds_toArray, List.set_cons_zero, List.set_cons_succ, i64_w, i32_w]
             rfl
            refine take_ (i := 1) (N := some 41) (v := ?_) (a' := ?_) #[true, true, true, false, false, true, false, true, false, false, false, false] rfl rfl (take_ofW HT_.out HW_.out (by kernel_rfl)) (fun _ _ _ h => h) (Or.inl ⟨by rfl, ?_⟩) hHeld ?_ ?_
            rotate_left
            ·rintro w' ⟨s0, s1, s2, s3, s4, s5, s6, s7, s8, s9, s10, s11, s12, s13, s14, s15⟩
             go_simp
             with_reducible rfl
            rotate_left
            ·simp only [Act.put, List.setIfInBounds_toArray, List.set_cons_zero, List.set_cons_succ, i64_w, i32_w]
             rfl
            refine pure_ (i := 3) (N := some 43) (v := ?_) (a' := ?_) #[true, true, true, true, false, true, false, true, false, false, false, false] rfl rfl (any_of HT_.out (by kernel_rfl)) (fun _ _ _ h => h) (Or.inl ⟨by rfl, ?_⟩) ?_ ?_
            rotate_left
            ·intro w'
             go_simp
             with_reducible rfl
            rotate_left
            ·simp only [Act.put, List.setIfInBounds_toArray, List.set_cons_zero, List.set_cons_succ, i64_w, i32_w]
             rfl
            refine take_ (i := 4) (N := some 44) (v := ?_) (a' := ?_) #[true, true, true, true, true, true, false, true, false, false, false, false] rfl rfl (take_ofW HT_.out HW_.out (by kernel_rfl)) (fun _ _ _ h => h) (Or.inl ⟨by rfl, ?_⟩) hHeld ?_ ?_
            rotate_left
            ·rintro w' ⟨s0, s1, s2, s3, s4, s5, s6, s7, s8, s9, s10, s11, s12, s13, s14, s15⟩
             go_simp
             with_reducible rfl
            rotate_left
            ·simp only [Act.put, List.setIfInBounds_toArray, List.set_cons_zero, List.set_cons_succ, i64_w, i32_w]
             rfl
            refine take_ (i := 6) (N := some 46) (v := ?_) (a' := ?_) #[true, true, true, true, true, true, true, true, false, false, false, false] rfl rfl (take_ofW HT_.out HW_.out (by kernel_rfl)) (fun _ _ _ h => h) (Or.inl ⟨by rfl, ?_⟩) hHeld ?_ ?_
            rotate_left
            ·rintro w' ⟨s0, s1, s2, s3, s4, s5, s6, s7, s8, s9, s10, s11, s12, s13, s14, s15⟩
             go_simp
             with_reducible rfl
            rotate_left
            ·simp only [Act.put, List.setIfInBounds_toArray, List.set_cons_zero, List.set_cons_succ, i64_w, i32_w]
             rfl
            refine pure_ (i := 8) (N := some 48) (v := ?_) (a' := ?_) #[true, true, true, true, true, true, true, true, true, false, false, false] rfl rfl (any_of HT_.out (by kernel_rfl)) (fun _ _ _ h => h) (Or.inl ⟨by rfl, ?_⟩) ?_ ?_
            rotate_left
            ·intro w'
             go_simp
             with_reducible rfl
            rotate_left
            ·simp only [Act.put, List.setIfInBounds_toArray, List.set_cons_zero, List.set_cons_succ, i64_w, i32_w]
             rfl
            refine take_ (i := 9) (N := some 49) (v := ?_) (a' := ?_) #[true, true, true, true, true, true, true, true, true, true, false, false] rfl rfl (take_ofW HT_.out HW_.out (by kernel_rfl)) (fun _ _ _ h => h) (Or.inl ⟨by rfl, ?_⟩) hHeld ?_ ?_
            rotate_left
            ·rintro w' ⟨s0, s1, s2, s3, s4, s5, s6, s7, s8, s9, s10, s11, s12, s13, s14, s15⟩
             go_simp
             with_reducible rfl
            rotate_left
            ·simp only [Act.put, List.setIfInBounds_toArray, List.set_cons_zero, List.set_cons_succ, i64_w, i32_w]
             rfl
            refine one_ (i := 10) (N := some 50) #[true, true, true, true, true, true, true, true, true, true, true, false] rfl rfl (one_of HT_.out (by kernel_rfl)) (by decide) (fun K hK => ?_)
            refine goes_ Tryd.func32 (by kernel_rfl) rfl #[.agg #[.int .i64 ((rdV l0_3 x37_2).kind), .int .u64 ((rdV l0_3 x37_2).n), .string ((rdV l0_3 x37_2).text), .slice A503_3 ((rdV l0_3 x37_2).items).length c503_3], .agg #[.int .i64 ((rdV l1_3 x37_2).kind), .int .u64 ((rdV l1_3 x37_2).n), .string ((rdV l1_3 x37_2).text), .slice A504_3 ((rdV l1_3 x37_2).items).length c504_3]] (by rfl) rfl rfl (by (try simp only [List.map_toArray, List.map_cons, List.map_nil]); first | done | rfl | (simp only [List.length_drop, List.length_take]; rfl)) ?_
            with_reducible refine (ih k2 (by have := HJ2.out; have := HK2.out; omega) ((rdV l0_3 x37_2).kind) ((rdV l0_3 x37_2).n) ((rdV l0_3 x37_2).text) _ _ ((rdV l0_3 x37_2).items) ((rdV l1_3 x37_2).kind) ((rdV l1_3 x37_2).n) ((rdV l1_3 x37_2).text) _ _ ((rdV l1_3 x37_2).items) true _ ?side1 ?side2 ?side3 ?side4 A28.out).mono ?_
            (case side1 => repeat (first | exact (Kd.C_below HR503_3.out HB.out) | (with_reducible refine Kd.C_alloc ?_ _) | (with_reducible refine Kd.C_drewN ?_ _) | (with_reducible refine Kd.C_drew ?_)))
            (case side2 => exact HC503_3.out)
            (case side3 => repeat (first | exact (Kd.C_below HR504_3.out HB.out) | (with_reducible refine Kd.C_alloc ?_ _) | (with_reducible refine Kd.C_drewN ?_ _) | (with_reducible refine Kd.C_drew ?_)))
            (case side4 => exact HC504_3.out)
            rintro e w31 ⟨rfl, hb⟩
            refine ⟨_, rfl, ?_⟩
            have n0_ := Aside0.mk (blk_below (g := gb501) (o := .cells #[.int .i64 a0_0, .int .u64 a0_1, .string a0_2, .slice (some ad503) l0_3.length c0_3] 25 (0, 0)) (by (with_reducible repeat (first | refine blk_drewN ?_ _ | refine blk_drew ?_ | refine blk_alloc ?_ _)); exact BK501.out) hb)
            have n1_ := Aside0.mk (blk_below (g := gb502) (o := .cells #[.int .i64 a1_0, .int .u64 a1_1, .string a1_2, .slice (some ad504) l1_3.length c1_3] 25 (0, 0)) (by (with_reducible repeat (first | refine blk_drewN ?_ _ | refine blk_drew ?_ | refine blk_alloc ?_ _)); exact BK502.out) hb)
            have n2_ := Aside0.mk (below_step (by repeat (first | (with_reducible first | exact HB.out | apply below_alloc | apply pw_below_drewN | apply below_drew1 | refine below_set ?_ GE501.out | refine below_set ?_ GE502.out) | exact HB.out)) hb)
            clear BK501
            clear BK502
            clear HB
            have BK501 := n0_
            have BK502 := n1_
            have HB := n2_
            clear n0_ n1_ n2_
            (try clear hb)
            (try clear hb2)
            (try clear hk)
            (try clear hi)
            refine hK.out _ _ ⟨(blk_cell BK501.out 0).trans rfl, (blk_cell BK501.out 1).trans rfl, (blk_cell BK501.out 2).trans rfl, (blk_cell BK501.out 3).trans rfl, (blk_cell BK502.out 0).trans rfl, (blk_cell BK502.out 1).trans rfl, (blk_cell BK502.out 2).trans rfl, (blk_cell BK502.out 3).trans rfl, ((HB.out.cell (World.block_lt_of_cell? w _ hw503_0)).trans hw503_0), ((HB.out.cell (World.block_lt_of_cell? w _ hw503_1)).trans hw503_1), ((HB.out.cell (World.block_lt_of_cell? w _ hw503_2)).trans hw503_2), ((HB.out.cell (World.block_lt_of_cell? w _ hw503_3)).trans hw503_3), ((HB.out.cell (World.block_lt_of_cell? w _ hw504_0)).trans hw504_0), ((HB.out.cell (World.block_lt_of_cell? w _ hw504_1)).trans hw504_1), ((HB.out.cell (World.block_lt_of_cell? w _ hw504_2)).trans hw504_2), ((HB.out.cell (World.block_lt_of_cell? w _ hw504_3)).trans hw504_3)⟩ (fun hHeld => ?_)
            clear hK K
            refine norm_ (a' := ?_) ?_ ?_
            rotate_left
            ·show Act.put _ (some 50) _ = _
             simp only [Act.put, List.setIfInBounds_toArray, List.set_cons_zero, List.set_cons_succ, i64_w, i32_w]
             rfl
            refine pure_ (i := 11) (N := some 51) (v := ?_) (a' := ?_) #[true, true, true, true, true, true, true, true, true, true, true, true] rfl rfl (any_of HT_.out (by kernel_rfl)) (fun _ _ _ h => h) (Or.inl ⟨by rfl, ?_⟩) ?_ ?_
            rotate_left
            ·intro w'
             go_simp
             with_reducible rfl
            rotate_left
            ·simp only [Act.put, List.setIfInBounds_toArray, List.set_cons_zero, List.set_cons_succ, i64_w, i32_w]
             rfl
            refine done_ (done_of HT_.out (by kernel_rfl)) ?_
            try go_wp2
            go_roundg k2
            case measure => have := HJ2.out; have := HK2.out; omega
            case rel => exact ⟨(wrap64 (x37_2 + 1)), (by first | rfl | (simp; done) | (simp [*]; done)), H', ⟨by have := HJ2.out; have := HK2.out; omega⟩, ⟨by (with_reducible repeat (first | refine blk_drewN ?_ _ | refine blk_drew ?_ | refine blk_alloc ?_ _)); exact BK501.out⟩, ⟨by (with_reducible repeat (first | refine blk_drewN ?_ _ | refine blk_drew ?_ | refine blk_alloc ?_ _)); exact BK502.out⟩, ⟨by repeat (first | (with_reducible first | exact HB.out | apply below_alloc | apply pw_below_drewN | apply below_drew1 | refine below_set ?_ GE501.out | refine below_set ?_ GE502.out) | exact HB.out)⟩⟩
           ·replace c29 := Bool.eq_false_iff.mpr c29
            subst c29
            have H1 : (some false) = some r := by rw [if_neg (show ¬ (false = true) by decide)] at H; exact H
            clear H
            have H := H1
            clear H1
            obtain rfl := Option.some.inj H
            try go_wp2
            have n0_ := Aside0.mk (blk_drew BK501.out)
            have n1_ := Aside0.mk (blk_drew BK502.out)
            have n2_ := Aside0.mk (below_drew1 HB.out)
            clear BK501
            clear BK502
            clear HB
            have BK501 := n0_
            have BK502 := n1_
            have HB := n2_
            clear n0_ n1_ n2_
            have p503 : 0 ≤ (x37_2 : Int) := of_decide_eq_true (by first | (with_reducible assumption) | assumption)
            have q503 : x37_2 < (l0_3.length : Int) := of_decide_eq_true (by first | (with_reducible assumption) | assumption)
            obtain ⟨ad503, A503_3, c503_3, e503, hx503_0, hx503_1, hx503_2, hx503_3, hl503_3, hi503_3⟩ := atV HR0_3.out x37_2 p503 q503
            have hw503_3 := hx503_3
            have hw503_2 := hx503_2
            have hw503_1 := hx503_1
            have hw503_0 := hx503_0
            cases e503
            replace hx503_0 := (HB.out.cell (World.block_lt_of_cell? w _ hx503_0)).trans hx503_0
            replace hx503_1 := (HB.out.cell (World.block_lt_of_cell? w _ hx503_1)).trans hx503_1
            replace hx503_2 := (HB.out.cell (World.block_lt_of_cell? w _ hx503_2)).trans hx503_2
            replace hx503_3 := (HB.out.cell (World.block_lt_of_cell? w _ hx503_3)).trans hx503_3
            have HR503_3 := Aside0.mk hi503_3
            have HC503_3 := Aside0.mk hl503_3
            clear hi503_3 hl503_3
            replace p503 := eq_true p503
            replace q503 := eq_true q503
            have p504 : 0 ≤ (x37_2 : Int) := of_decide_eq_true (by first | (with_reducible assumption) | assumption)
            have q504 : x37_2 < (l1_3.length : Int) := of_decide_eq_true (by first | (with_reducible assumption) | assumption)
            obtain ⟨ad504, A504_3, c504_3, e504, hx504_0, hx504_1, hx504_2, hx504_3, hl504_3, hi504_3⟩ := atV HR1_3.out x37_2 p504 q504
            have hw504_3 := hx504_3
            have hw504_2 := hx504_2
            have hw504_1 := hx504_1
            have hw504_0 := hx504_0
            cases e504
            replace hx504_0 := (HB.out.cell (World.block_lt_of_cell? w _ hx504_0)).trans hx504_0
            replace hx504_1 := (HB.out.cell (World.block_lt_of_cell? w _ hx504_1)).trans hx504_1
            replace hx504_2 := (HB.out.cell (World.block_lt_of_cell? w _ hx504_2)).trans hx504_2
            replace hx504_3 := (HB.out.cell (World.block_lt_of_cell? w _ hx504_3)).trans hx504_3
            have HR504_3 := Aside0.mk hi504_3
            have HC504_3 := Aside0.mk hl504_3
            clear hi504_3 hl504_3
            replace p504 := eq_true p504
            replace q504 := eq_true q504
            refine start_ (n := 12) (S := fun w' => w'.cell? ⟨gb501, 0, none⟩ = some (.int .i64 a0_0) ∧ w'.cell? ⟨gb501, 1, none⟩ = some (.int .u64 a0_1) ∧ w'.cell? ⟨gb501, 2, none⟩ = some (.string a0_2) ∧ w'.cell? ⟨gb501, 3, none⟩ = some (.slice (some ad503) l0_3.length c0_3) ∧ w'.cell? ⟨gb502, 0, none⟩ = some (.int .i64 a1_0) ∧ w'.cell? ⟨gb502, 1, none⟩ = some (.int .u64 a1_1) ∧ w'.cell? ⟨gb502, 2, none⟩ = some (.string a1_2) ∧ w'.cell? ⟨gb502, 3, none⟩ = some (.slice (some ad504) l1_3.length c1_3) ∧ w'.cell? (ad503.add ((x37_2).toNat * 4)) = some (.int .i64 ((rdV l0_3 x37_2).kind)) ∧ w'.cell? ⟨(ad503.add ((x37_2).toNat * 4)).block, (ad503.add ((x37_2).toNat * 4)).off + 1, none⟩ = some (.int .u64 ((rdV l0_3 x37_2).n)) ∧ w'.cell? ⟨(ad503.add ((x37_2).toNat * 4)).block, (ad503.add ((x37_2).toNat * 4)).off + 2, none⟩ = some (.string ((rdV l0_3 x37_2).text)) ∧ w'.cell? ⟨(ad503.add ((x37_2).toNat * 4)).block, (ad503.add ((x37_2).toNat * 4)).off + 3, none⟩ = some (.slice A503_3 ((rdV l0_3 x37_2).items).length c503_3) ∧ w'.cell? (ad504.add ((x37_2).toNat * 4)) = some (.int .i64 ((rdV l1_3 x37_2).kind)) ∧ w'.cell? ⟨(ad504.add ((x37_2).toNat * 4)).block, (ad504.add ((x37_2).toNat * 4)).off + 1, none⟩ = some (.int .u64 ((rdV l1_3 x37_2).n)) ∧ w'.cell? ⟨(ad504.add ((x37_2).toNat * 4)).block, (ad504.add ((x37_2).toNat * 4)).off + 2, none⟩ = some (.string ((rdV l1_3 x37_2).text)) ∧ w'.cell? ⟨(ad504.add ((x37_2).toNat * 4)).block, (ad504.add ((x37_2).toNat * 4)).off + 3, none⟩ = some (.slice A504_3 ((rdV l1_3 x37_2).items).length c504_3)) (ds := []) #[false, false, false, false, false, false, false, false, false, false, false, false] (by kernel_rfl) rfl rfl ⟨(blk_cell BK501.out 0).trans rfl, (blk_cell BK501.out 1).trans rfl, (blk_cell BK501.out 2).trans rfl, (blk_cell BK501.out 3).trans rfl, (blk_cell BK502.out 0).trans rfl, (blk_cell BK502.out 1).trans rfl, (blk_cell BK502.out 2).trans rfl, (blk_cell BK502.out 3).trans rfl, ((HB.out.cell (World.block_lt_of_cell? w _ hw503_0)).trans hw503_0), ((HB.out.cell (World.block_lt_of_cell? w _ hw503_1)).trans hw503_1), ((HB.out.cell (World.block_lt_of_cell? w _ hw503_2)).trans hw503_2), ((HB.out.cell (World.block_lt_of_cell? w _ hw503_3)).trans hw503_3), ((HB.out.cell (World.block_lt_of_cell? w _ hw504_0)).trans hw504_0), ((HB.out.cell (World.block_lt_of_cell? w _ hw504_1)).trans hw504_1), ((HB.out.cell (World.block_lt_of_cell? w _ hw504_2)).trans hw504_2), ((HB.out.cell (World.block_lt_of_cell? w _ hw504_3)).trans hw504_3)⟩ (fun hHeld => ?_); refine with_tabW amqvalue_Same.tab6 amqvalue_Same.bits6 (fun HT_ HW_ => ?_)
            generalize wr.drew = w32 at BK501 BK502 HB HR503_3 HR504_3 hx503_0 hx503_1 hx503_2 hx503_3 hx504_0 hx504_1 hx504_2 hx504_3 hHeld ⊢
            refine pure_ (i := 0) (N := some 40) (v := ?_) (a' := ?_) #[true, false, false, false, false, false, false, false, false, false, false, false] rfl rfl (any_of HT_.out (by kernel_rfl)) (fun _ _ _ h => h) (Or.inl ⟨by rfl, ?_⟩) ?_ ?_
            rotate_left
            ·intro w'
             go_simp
             with_reducible rfl
            rotate_left
            ·simp only [Act.put, List.setIfInBounds_toArray, List.set_cons_zero, List.set_cons_succ, i64_w, i32_w]
             rfl
            refine pure_ (i := 2) (N := some 42) (v := ?_) (a' := ?_) #[true, false, true, false, false, false, false, false, false, false, false, false] rfl rfl (any_of HT_.out (by kernel_rfl)) (fun _ _ _ h => h) (Or.inl ⟨by rfl, ?_⟩) ?_ ?_
            rotate_left
            ·intro w'
             go_simp
             with_reducible rfl
            rotate_left
            ·simp only [Act.put, List.setIfInBounds_toArray, List.set_cons_zero, List.set_cons_succ, i64_w, i32_w]
             rfl
            refine pure_ (i := 5) (N := some 45) (v := ?_) (a' := ?_) #[true, false, true, false, false, true, false, false, false, false, false, false] rfl rfl (any_of HT_.out (by kernel_rfl)) (fun _ _ _ h => h) (Or.inl ⟨by rfl, ?_⟩) ?_ ?_
            rotate_left
            ·intro w'
             go_simp
             with_reducible rfl
            rotate_left
            ·simp only [Act.put, List.setIfInBounds_toArray, List.set_cons_zero, List.set_cons_succ, i64_w, i32_w]
             rfl
            refine pure_ (i := 7) (N := some 47) (v := ?_) (a' := ?_) #[true, false, true, false, false, true, false, true, false, false, false, false] rfl rfl (any_of HT_.out (by kernel_rfl)) (fun _ _ _ h => h) (Or.inl ⟨by rfl, ?_⟩) ?_ ?_
            rotate_left
            ·intro w'
             go_simp
             with_reducible rfl
            rotate_left
            ·simp only [Act.put, List.setIfInBounds_toArray, List.set_cons_zero, List.set_cons_succ, i64_w, i32_w]
             rfl
            refine take_ (i := 1) (N := some 41) (v := ?_) (a' := ?_) #[true, true, true, false, false, true, false, true, false, false, false, false] rfl rfl (take_ofW HT_.out HW_.out (by kernel_rfl)) (fun _ _ _ h => h) (Or.inl ⟨by rfl, ?_⟩) hHeld ?_ ?_
            rotate_left
            ·rintro w' ⟨s0, s1, s2, s3, s4, s5, s6, s7, s8, s9, s10, s11, s12, s13, s14, s15⟩
             go_simp
             with_reducible rfl
            rotate_left
            ·simp only [Act.put, List.setIfInBounds_toArray, List.set_cons_zero, List.set_cons_succ, i64_w, i32_w]
             rfl
            refine pure_ (i := 3) (N := some 43) (v := ?_) (a' := ?_) #[true, true, true, true, false, true, false, true, false, false, false, false] rfl rfl (any_of HT_.out (by kernel_rfl)) (fun _ _ _ h => h) (Or.inl ⟨by rfl, ?_⟩) ?_ ?_
            rotate_left
            ·intro w'
             go_simp
             with_reducible rfl
            rotate_left
            ·simp only [Act.put, List.setIfInBounds_toArray, List.set_cons_zero, List.set_cons_succ, i64_w, i32_w]
             rfl
            refine take_ (i := 4) (N := some 44) (v := ?_) (a' := ?_) #[true, true, true, true, true, true, false, true, false, false, false, false] rfl rfl (take_ofW HT_.out HW_.out (by kernel_rfl)) (fun _ _ _ h => h) (Or.inl ⟨by rfl, ?_⟩) hHeld ?_ ?_
            rotate_left
            ·rintro w' ⟨s0, s1, s2, s3, s4, s5, s6, s7, s8, s9, s10, s11, s12, s13, s14, s15⟩
             go_simp
             with_reducible rfl
            rotate_left
            ·simp only [Act.put, List.setIfInBounds_toArray, List.set_cons_zero, List.set_cons_succ, i64_w, i32_w]
             rfl
            refine take_ (i := 6) (N := some 46) (v := ?_) (a' := ?_) #[true, true, true, true, true, true, true, true, false, false, false, false] rfl rfl (take_ofW HT_.out HW_.out (by kernel_rfl)) (fun _ _ _ h => h) (Or.inl ⟨by rfl, ?_⟩) hHeld ?_ ?_
            rotate_left
            ·rintro w' ⟨s0, s1, s2, s3, s4, s5, s6, s7, s8, s9, s10, s11, s12, s13, s14, s15⟩
             go_simp
             with_reducible rfl
            rotate_left
            ·simp only [Act.put, List.setIfInBounds_toArray, List.set_cons_zero, List.set_cons_succ, i64_w, i32_w]
             rfl
            refine pure_ (i := 8) (N := some 48) (v := ?_) (a' := ?_) #[true, true, true, true, true, true, true, true, true, false, false, false] rfl rfl (any_of HT_.out (by kernel_rfl)) (fun _ _ _ h => h) (Or.inl ⟨by rfl, ?_⟩) ?_ ?_
            rotate_left
            ·intro w'
             go_simp
             with_reducible rfl
            rotate_left
            ·simp only [Act.put, List.setIfInBounds_toArray, List.set_cons_zero, List.set_cons_succ, i64_w, i32_w]
             rfl
            refine take_ (i := 9) (N := some 49) (v := ?_) (a' := ?_) #[true, true, true, true, true, true, true, true, true, true, false, false] rfl rfl (take_ofW HT_.out HW_.out (by kernel_rfl)) (fun _ _ _ h => h) (Or.inl ⟨by rfl, ?_⟩) hHeld ?_ ?_
            rotate_left
            ·rintro w' ⟨s0, s1, s2, s3, s4, s5, s6, s7, s8, s9, s10, s11, s12, s13, s14, s15⟩
             go_simp
             with_reducible rfl
            rotate_left
            ·simp only [Act.put, List.setIfInBounds_toArray, List.set_cons_zero, List.set_cons_succ, i64_w, i32_w]
             rfl
            refine one_ (i := 10) (N := some 50) #[true, true, true, true, true, true, true, true, true, true, true, false] rfl rfl (one_of HT_.out (by kernel_rfl)) (by decide) (fun K hK => ?_)
            refine goes_ Tryd.func32 (by kernel_rfl) rfl #[.agg #[.int .i64 ((rdV l0_3 x37_2).kind), .int .u64 ((rdV l0_3 x37_2).n), .string ((rdV l0_3 x37_2).text), .slice A503_3 ((rdV l0_3 x37_2).items).length c503_3], .agg #[.int .i64 ((rdV l1_3 x37_2).kind), .int .u64 ((rdV l1_3 x37_2).n), .string ((rdV l1_3 x37_2).text), .slice A504_3 ((rdV l1_3 x37_2).items).length c504_3]] (by rfl) rfl rfl (by (try simp only [List.map_toArray, List.map_cons, List.map_nil]); first | done | rfl | (simp only [List.length_drop, List.length_take]; rfl)) ?_
            with_reducible refine (ih k2 (by have := HJ2.out; have := HK2.out; omega) ((rdV l0_3 x37_2).kind) ((rdV l0_3 x37_2).n) ((rdV l0_3 x37_2).text) _ _ ((rdV l0_3 x37_2).items) ((rdV l1_3 x37_2).kind) ((rdV l1_3 x37_2).n) ((rdV l1_3 x37_2).text) _ _ ((rdV l1_3 x37_2).items) false _ ?side1 ?side2 ?side3 ?side4 A28.out).mono ?_
            (case side1 => repeat (first | exact (Kd.C_below HR503_3.out HB.out) | (with_reducible refine Kd.C_alloc ?_ _) | (with_reducible refine Kd.C_drewN ?_ _) | (with_reducible refine Kd.C_drew ?_)))
            (case side2 => exact HC503_3.out)
            (case side3 => repeat (first | exact (Kd.C_below HR504_3.out HB.out) | (with_reducible refine Kd.C_alloc ?_ _) | (with_reducible refine Kd.C_drewN ?_ _) | (with_reducible refine Kd.C_drew ?_)))
            (case side4 => exact HC504_3.out)
            rintro e w33 ⟨rfl, hb⟩
            refine ⟨_, rfl, ?_⟩
            have n0_ := Aside0.mk (blk_below (g := gb501) (o := .cells #[.int .i64 a0_0, .int .u64 a0_1, .string a0_2, .slice (some ad503) l0_3.length c0_3] 25 (0, 0)) (by (with_reducible repeat (first | refine blk_drewN ?_ _ | refine blk_drew ?_ | refine blk_alloc ?_ _)); exact BK501.out) hb)
            have n1_ := Aside0.mk (blk_below (g := gb502) (o := .cells #[.int .i64 a1_0, .int .u64 a1_1, .string a1_2, .slice (some ad504) l1_3.length c1_3] 25 (0, 0)) (by (with_reducible repeat (first | refine blk_drewN ?_ _ | refine blk_drew ?_ | refine blk_alloc ?_ _)); exact BK502.out) hb)
            have n2_ := Aside0.mk (below_step (by repeat (first | (with_reducible first | exact HB.out | apply below_alloc | apply pw_below_drewN | apply below_drew1 | refine below_set ?_ GE501.out | refine below_set ?_ GE502.out) | exact HB.out)) hb)
            clear BK501
            clear BK502
            clear HB
            have BK501 := n0_
            have BK502 := n1_
            have HB := n2_
            clear n0_ n1_ n2_
            (try clear hb)
            (try clear hb2)
            (try clear hk)
            (try clear hi)
            refine hK.out _ _ ⟨(blk_cell BK501.out 0).trans rfl, (blk_cell BK501.out 1).trans rfl, (blk_cell BK501.out 2).trans rfl, (blk_cell BK501.out 3).trans rfl, (blk_cell BK502.out 0).trans rfl, (blk_cell BK502.out 1).trans rfl, (blk_cell BK502.out 2).trans rfl, (blk_cell BK502.out 3).trans rfl, ((HB.out.cell (World.block_lt_of_cell? w _ hw503_0)).trans hw503_0), ((HB.out.cell (World.block_lt_of_cell? w _ hw503_1)).trans hw503_1), ((HB.out.cell (World.block_lt_of_cell? w _ hw503_2)).trans hw503_2), ((HB.out.cell (World.block_lt_of_cell? w _ hw503_3)).trans hw503_3), ((HB.out.cell (World.block_lt_of_cell? w _ hw504_0)).trans hw504_0), ((HB.out.cell (World.block_lt_of_cell? w _ hw504_1)).trans hw504_1), ((HB.out.cell (World.block_lt_of_cell? w _ hw504_2)).trans hw504_2), ((HB.out.cell (World.block_lt_of_cell? w _ hw504_3)).trans hw504_3)⟩ (fun hHeld => ?_)
            clear hK K
            refine norm_ (a' := ?_) ?_ ?_
            rotate_left
            ·show Act.put _ (some 50) _ = _
             simp only [Act.put, List.setIfInBounds_toArray, List.set_cons_zero, List.set_cons_succ, i64_w, i32_w]
             rfl
            refine pure_ (i := 11) (N := some 51) (v := ?_) (a' := ?_) #[true, true, true, true, true, true, true, true, true, true, true, true] rfl rfl (any_of HT_.out (by kernel_rfl)) (fun _ _ _ h => h) (Or.inl ⟨by rfl, ?_⟩) ?_ ?_
            rotate_left
            ·intro w'
             go_simp
             with_reducible rfl
            rotate_left
            ·simp only [Act.put, List.setIfInBounds_toArray, List.set_cons_zero, List.set_cons_succ, i64_w, i32_w]
             rfl
            refine done_ (done_of HT_.out (by kernel_rfl)) ?_
            try go_wp2
            go_ret
            exact ⟨by first | rfl | (simp [errW_none, errW_some] <;> rfl) | (simp [*, errW_none, errW_some] <;> rfl), by repeat (first | (with_reducible first | exact HB.out | apply below_alloc | apply pw_below_drewN | apply below_drew1 | refine below_set ?_ GE501.out | refine below_set ?_ GE502.out) | exact HB.out)⟩
          ·rw [if_neg c27] at H
           exact absurd H (by simp)
         ·rw [if_neg c26] at H
          exact absurd H (by simp)
        ·rw [if_neg c25] at H
         exact absurd H (by simp)
       ·rw [if_neg c24] at H
        have c24b0 : decide (x37_2 < (l0_3.length : Int)) = false := decide_eq_false c24
        clear c24
        obtain rfl := Option.some.inj H
        go_wp2
        go_ret
        exact ⟨by first | rfl | (simp [errW_none, errW_some] <;> rfl) | (simp [*, errW_none, errW_some] <;> rfl), by repeat (first | (with_reducible first | exact HB.out | apply below_alloc | apply pw_below_drewN | apply below_drew1 | refine below_set ?_ GE501.out | refine below_set ?_ GE502.out) | exact HB.out)⟩
set_option maxHeartbeats 8000000 in
set_option maxRecDepth 100000 in
theorem amqvalue_Count.calls (k : Nat) : ∀ (a0_0 : Int) (a0_1 : Int) (a0_2 : ByteArray) (A0_3 : Option Addr) (c0_3 : Nat) (l0_3 : List (Vl)) (r : Int) (w : World) (hr0_3 : Kd.C kV w A0_3 l0_3.length l0_3) (hc0_3 : l0_3.length ≤ c0_3) (h : amqvalue_Count.f k a0_0 a0_1 a0_2 l0_3 = some r),
    Calls Tryd.prog 33 #[.agg #[.int .i64 a0_0, .int .u64 a0_1, .string a0_2, .slice A0_3 l0_3.length c0_3]] w fun e w' => e = .returned (.int .i64 r) ∧ Below w.heap.size w w' := by
  induction k using Nat.strongRecOn with
  | _ k ih =>
  intro a0_0 a0_1 a0_2 A0_3 c0_3 l0_3 r w hr0_3 hc0_3 h
  cases k with
  | zero => exact absurd h (by simp [amqvalue_Count.f])
  | succ k =>
  simp only [amqvalue_Count.f] at h
  have hu25 := Tryd.underlying25
  have HR0_3 := Aside0.mk hr0_3
  have HC0_3 := Aside0.mk hc0_3
  clear hr0_3 hc0_3
  have HB := Aside0.mk (Below.refl w.heap.size w)
  have H : (amqvalue_Count.l0 k 1 l0_3 (l0_3.length : Int) 0) = some r := h
  clear h
  have H' := Aside0.mk H
  clear H
  go_enter Tryd.func33, Tryd.ntmps33
  go_wp2_with (first | ((with_reducible refine gate_dst (N := 1) rfl ?_); refine box_event ?hg (N := 1) ?hd (cs := #[.int .i64 a0_0, .int .u64 a0_1, .string a0_2, .slice A0_3 l0_3.length c0_3]) (t := 25) ?hr ?_; (case hd => rfl); (case hg => rfl); (case hr => first | (go_simp; done) | (go_simp; rfl)); intro gb506 hg w2 hbox hb; have n0_ := Aside0.mk (below_step (by repeat (first | (with_reducible first | exact HB.out | apply below_alloc | apply pw_below_drewN | apply below_drew1) | exact HB.out)) hb); have n1_ := Aside0.mk (hbox); have n2_ := Aside0.mk ((by rw [hg]; exact (below_size (by repeat (first | (with_reducible first | exact HB.out | apply below_alloc | apply pw_below_drewN | apply below_drew1) | exact HB.out))) : w.heap.size ≤ gb506)); have n3_ := Aside0.mk ((by rw [hg]; exact (below_size (by repeat (first | (with_reducible first | exact HB.out | apply below_alloc | apply pw_below_drewN | apply below_drew1) | exact HB.out))) : w.heap.size ≤ gb506)); clear HB; have HB := n0_; have BK506 := n1_; have GW506 := n2_; have GE506 := n3_; clear n0_ n1_ n2_ n3_; clear hb hbox hg; have hcz3_0 : w2.cell? ⟨gb506, 0, none⟩ = some (.int .i64 a0_0) := (blk_cell BK506.out 0).trans rfl; have hcz3_1 : w2.cell? ⟨gb506, 1, none⟩ = some (.int .u64 a0_1) := (blk_cell BK506.out 1).trans rfl; have hcz3_2 : w2.cell? ⟨gb506, 2, none⟩ = some (.string a0_2) := (blk_cell BK506.out 2).trans rfl; have hcz3_3 : w2.cell? ⟨gb506, 3, none⟩ = some (.slice A0_3 l0_3.length c0_3) := (blk_cell BK506.out 3).trans rfl; have hfz3_0 := blk_frozen BK506.out 0; have hfz3_1 := blk_frozen BK506.out 1; have hfz3_2 := blk_frozen BK506.out 2; have hfz3_3 := blk_frozen BK506.out 3))
  go_loopg [3, 9] k (fun kq v3 v9 w' => ∃ (x3_1 : Int) (x9_1 : Int), v3 = .int .i64 x3_1 ∧ v9 = .int .i64 x9_1 ∧ Aside0 (amqvalue_Count.l0 kq x3_1 l0_3 (l0_3.length : Int) x9_1 = some r) ∧ Aside0 (kq ≤ k) ∧ Aside0 (w'.heap[gb506]? = some (.cells #[.int .i64 a0_0, .int .u64 a0_1, .string a0_2, (.slice A0_3 l0_3.length c0_3)] 25 (0, 0))) ∧ Aside0 (Below w.heap.size w w'))
  case atStart => exact ⟨(1), (0), (by first | rfl | (simp; done) | (simp [*]; done)), (by first | rfl | (simp; done) | (simp [*]; done)), H', ⟨Nat.le_refl _⟩, ⟨by (with_reducible repeat (first | refine blk_drewN ?_ _ | refine blk_drew ?_ | refine blk_alloc ?_ _)); exact BK506.out⟩, ⟨by repeat (first | (with_reducible first | exact HB.out | apply below_alloc | apply pw_below_drewN | apply below_drew1 | refine below_set ?_ GE506.out) | exact HB.out)⟩⟩
  case round =>
   clear H'
   try clear p2
   try clear c3
   try clear hcz3_0
   try clear hcz3_1
   try clear hcz3_2
   try clear hcz3_3
   try clear hfz3_0
   try clear hfz3_1
   try clear hfz3_2
   try clear hfz3_3
   obtain ⟨x3_1, x9_1, rfl, rfl, HA, HK1, BK506, HB⟩ := hrel
   cases gk with
   | zero => exact absurd HA.out (by simp [amqvalue_Count.l0])
   | succ k1 =>
    have H := HA.out
    clear HA
    simp only [amqvalue_Count.l0] at H
    by_cases c4 : x9_1 < (l0_3.length : Int)
    ·rw [if_pos c4] at H
     have c4b0 : decide (x9_1 < (l0_3.length : Int)) = true := decide_eq_true c4
     clear c4
     by_cases c5 : 0 ≤ x9_1
     ·rw [if_pos c5] at H
      have c5b0 : decide (0 ≤ x9_1) = true := decide_eq_true c5
      clear c5
      by_cases c6 : x9_1 < (l0_3.length : Int)
      ·rw [if_pos c6] at H
       have c6b0 : decide (x9_1 < (l0_3.length : Int)) = true := decide_eq_true c6
       clear c6
       replace H := Option.bind_eq_some_iff.mp H
       obtain ⟨t509, A70, H⟩ := H
       replace H : (amqvalue_Count.l0 k1 (wrap64 (x3_1 + t509)) l0_3 (l0_3.length : Int) (wrap64 (x9_1 + 1))) = some r := H
       have A7 := Aside0.mk A70
       clear A70
       have H' := Aside0.mk H
       clear H
       have p507 : 0 ≤ (x9_1 : Int) := of_decide_eq_true (by first | (with_reducible assumption) | assumption)
       have q507 : x9_1 < (l0_3.length : Int) := of_decide_eq_true (by first | (with_reducible assumption) | assumption)
       obtain ⟨ad507, A507_3, c507_3, e507, hx507_0, hx507_1, hx507_2, hx507_3, hl507_3, hi507_3⟩ := atV HR0_3.out x9_1 p507 q507
       cases e507
       replace hx507_0 := (HB.out.cell (World.block_lt_of_cell? w _ hx507_0)).trans hx507_0
       replace hx507_1 := (HB.out.cell (World.block_lt_of_cell? w _ hx507_1)).trans hx507_1
       replace hx507_2 := (HB.out.cell (World.block_lt_of_cell? w _ hx507_2)).trans hx507_2
       replace hx507_3 := (HB.out.cell (World.block_lt_of_cell? w _ hx507_3)).trans hx507_3
       have HR507_3 := Aside0.mk hi507_3
       have HC507_3 := Aside0.mk hl507_3
       clear hi507_3 hl507_3
       replace p507 := eq_true p507
       replace q507 := eq_true q507
       go_wp2_with (first | ((with_reducible refine gate_dst (N := 5) rfl ?_); refine box_event ?hg (N := 5) ?hd (cs := #[.int .i64 0, .int .u64 0, .string (⟨#[]⟩ : ByteArray), .slice none 0 0]) (t := 25) ?hr ?_; (case hd => rfl); (case hg => rfl); (case hr => first | (go_simp; done) | (go_simp; rfl)); intro gb508 hg w8 hbox hb; have n0_ := Aside0.mk (blk_below (g := gb506) (o := .cells #[.int .i64 a0_0, .int .u64 a0_1, .string a0_2, .slice (some ad507) l0_3.length c0_3] 25 (0, 0)) (by (with_reducible repeat (first | refine blk_drewN ?_ _ | refine blk_drew ?_ | refine blk_alloc ?_ _)); exact BK506.out) hb); have n1_ := Aside0.mk (below_step (by repeat (first | (with_reducible first | exact HB.out | apply below_alloc | apply pw_below_drewN | apply below_drew1 | refine below_set ?_ GE506.out) | exact HB.out)) hb); have n2_ := Aside0.mk (hbox); have n3_ := Aside0.mk ((by rw [hg]; exact (below_size (by repeat (first | (with_reducible first | exact HB.out | apply below_alloc | apply pw_below_drewN | apply below_drew1 | refine below_set ?_ GE506.out) | exact HB.out))) : w.heap.size ≤ gb508)); have n4_ := Aside0.mk ((by rw [hg]; exact (below_size (by repeat (first | (with_reducible first | exact HB.out | apply below_alloc | apply pw_below_drewN | apply below_drew1 | refine below_set ?_ GE506.out) | exact HB.out))) : w.heap.size ≤ gb508)); have n5_ := Aside0.mk ((by rw [hg]; exact Nat.ne_of_lt (blk_lt (g := gb506) (o := .cells #[.int .i64 a0_0, .int .u64 a0_1, .string a0_2, .slice (some ad507) l0_3.length c0_3] 25 (0, 0)) (by (with_reducible repeat (first | refine blk_drewN ?_ _ | refine blk_drew ?_ | refine blk_alloc ?_ _)); exact BK506.out)) : gb506 ≠ gb508)); have n6_ := Aside0.mk ((by rw [hg]; exact Nat.ne_of_gt (blk_lt (g := gb506) (o := .cells #[.int .i64 a0_0, .int .u64 a0_1, .string a0_2, .slice (some ad507) l0_3.length c0_3] 25 (0, 0)) (by (with_reducible repeat (first | refine blk_drewN ?_ _ | refine blk_drew ?_ | refine blk_alloc ?_ _)); exact BK506.out)) : gb508 ≠ gb506)); clear BK506; clear HB; have BK506 := n0_; have HB := n1_; have BK508 := n2_; have GW508 := n3_; have GE508 := n4_; have NB506_508 := n5_; have NB508_506 := n6_; clear n0_ n1_ n2_ n3_ n4_ n5_ n6_; clear hb hbox hg; have hnb9 := NB508_506.out; have hnc9 := NB506_508.out; have hcz10_0 : w8.cell? ⟨gb508, 0, none⟩ = some (.int .i64 0) := (blk_cell BK508.out 0).trans rfl; have hcz10_1 : w8.cell? ⟨gb508, 1, none⟩ = some (.int .u64 0) := (blk_cell BK508.out 1).trans rfl; have hcz10_2 : w8.cell? ⟨gb508, 2, none⟩ = some (.string (⟨#[]⟩ : ByteArray)) := (blk_cell BK508.out 2).trans rfl; have hcz10_3 : w8.cell? ⟨gb508, 3, none⟩ = some (.slice none 0 0) := (blk_cell BK508.out 3).trans rfl; have hfz10_0 := blk_frozen BK508.out 0; have hfz10_1 := blk_frozen BK508.out 1; have hfz10_2 := blk_frozen BK508.out 2; have hfz10_3 := blk_frozen BK508.out 3) | ((with_reducible refine gate_callee (f := 33) rfl ?_); refine goesL_ (some 15) rfl rfl Tryd.func33 (by kernel_rfl) rfl #[.agg #[.int .i64 ((rdV l0_3 x9_1).kind), .int .u64 ((rdV l0_3 x9_1).n), .string ((rdV l0_3 x9_1).text), .slice A507_3 ((rdV l0_3 x9_1).items).length c507_3]] rfl (by (try simp only [List.map_toArray, List.map_cons, List.map_nil]); first | done | rfl | (simp only [List.length_drop, List.length_take]; rfl)) ?_; (with_reducible refine (ih k1 (by have := HK1.out; omega) ((rdV l0_3 x9_1).kind) ((rdV l0_3 x9_1).n) ((rdV l0_3 x9_1).text) _ _ ((rdV l0_3 x9_1).items) t509 _ ?side1 ?side2 A7.out).mono ?_); (case side1 => exact Kd.C_below HR507_3.out (by repeat (first | (with_reducible first | exact HB.out | apply below_alloc | apply pw_below_drewN | apply below_drew1 | refine below_set ?_ GE506.out | refine below_set ?_ GE508.out) | exact HB.out))); (case side2 => exact HC507_3.out); rintro e w11 ⟨rfl, hb⟩; refine ⟨_, rfl, ?_⟩; have n0_ := Aside0.mk (blk_below (g := gb506) (o := .cells #[.int .i64 a0_0, .int .u64 a0_1, .string a0_2, .slice (some ad507) l0_3.length c0_3] 25 (0, 0)) (by (with_reducible repeat (first | refine blk_drewN ?_ _ | refine blk_drew ?_ | refine blk_alloc ?_ _)); refine blk_far ?_ NB506_508.out _; (with_reducible repeat (first | refine blk_drewN ?_ _ | refine blk_drew ?_ | refine blk_alloc ?_ _)); refine blk_far ?_ NB506_508.out _; (with_reducible repeat (first | refine blk_drewN ?_ _ | refine blk_drew ?_ | refine blk_alloc ?_ _)); refine blk_far ?_ NB506_508.out _; (with_reducible repeat (first | refine blk_drewN ?_ _ | refine blk_drew ?_ | refine blk_alloc ?_ _)); refine blk_far ?_ NB506_508.out _; (with_reducible repeat (first | refine blk_drewN ?_ _ | refine blk_drew ?_ | refine blk_alloc ?_ _)); exact BK506.out) hb); have n1_ := Aside0.mk (blk_below (g := gb508) (o := .cells #[.int .i64 ((rdV l0_3 x9_1).kind), .int .u64 ((rdV l0_3 x9_1).n), .string ((rdV l0_3 x9_1).text), .slice A507_3 ((rdV l0_3 x9_1).items).length c507_3] 25 (0, 0)) (by (with_reducible repeat (first | refine blk_drewN ?_ _ | refine blk_drew ?_ | refine blk_alloc ?_ _)); refine blk_put (cs := #[.int .i64 ((rdV l0_3 x9_1).kind), .int .u64 ((rdV l0_3 x9_1).n), .string ((rdV l0_3 x9_1).text), .slice none 0 0]) ?_ 3 _ rfl; (with_reducible repeat (first | refine blk_drewN ?_ _ | refine blk_drew ?_ | refine blk_alloc ?_ _)); refine blk_put (cs := #[.int .i64 ((rdV l0_3 x9_1).kind), .int .u64 ((rdV l0_3 x9_1).n), .string (⟨#[]⟩ : ByteArray), .slice none 0 0]) ?_ 2 _ rfl; (with_reducible repeat (first | refine blk_drewN ?_ _ | refine blk_drew ?_ | refine blk_alloc ?_ _)); refine blk_put (cs := #[.int .i64 ((rdV l0_3 x9_1).kind), .int .u64 0, .string (⟨#[]⟩ : ByteArray), .slice none 0 0]) ?_ 1 _ rfl; (with_reducible repeat (first | refine blk_drewN ?_ _ | refine blk_drew ?_ | refine blk_alloc ?_ _)); refine blk_put (cs := #[.int .i64 0, .int .u64 0, .string (⟨#[]⟩ : ByteArray), .slice none 0 0]) ?_ 0 _ rfl; (with_reducible repeat (first | refine blk_drewN ?_ _ | refine blk_drew ?_ | refine blk_alloc ?_ _)); exact BK508.out) hb); have n2_ := Aside0.mk (below_step (by repeat (first | (with_reducible first | exact HB.out | apply below_alloc | apply pw_below_drewN | apply below_drew1 | refine below_set ?_ GE506.out | refine below_set ?_ GE508.out) | exact HB.out)) hb); clear BK506; clear BK508; clear HB; have BK506 := n0_; have BK508 := n1_; have HB := n2_; clear n0_ n1_ n2_; (try clear hb); (try clear hb2); (try clear hk); (try clear hi)))
       go_roundg k1
       case measure => have := HK1.out; omega
       case rel => exact ⟨(wrap64 (x3_1 + t509)), (wrap64 (x9_1 + 1)), (by first | rfl | (simp; done) | (simp [*]; done)), (by first | rfl | (simp; done) | (simp [*]; done)), H', ⟨by have := HK1.out; omega⟩, ⟨by (with_reducible repeat (first | refine blk_drewN ?_ _ | refine blk_drew ?_ | refine blk_alloc ?_ _)); exact BK506.out⟩, ⟨by repeat (first | (with_reducible first | exact HB.out | apply below_alloc | apply pw_below_drewN | apply below_drew1 | refine below_set ?_ GE506.out | refine below_set ?_ GE508.out) | exact HB.out)⟩⟩
      ·rw [if_neg c6] at H
       exact absurd H (by simp)
     ·rw [if_neg c5] at H
      exact absurd H (by simp)
    ·rw [if_neg c4] at H
     have c4b0 : decide (x9_1 < (l0_3.length : Int)) = false := decide_eq_false c4
     clear c4
     obtain rfl := Option.some.inj H
     go_wp2
     go_ret
     exact ⟨by first | rfl | (simp [errW_none, errW_some] <;> rfl) | (simp [*, errW_none, errW_some] <;> rfl), by repeat (first | (with_reducible first | exact HB.out | apply below_alloc | apply pw_below_drewN | apply below_drew1 | refine below_set ?_ GE506.out) | exact HB.out)⟩
set_option maxHeartbeats 8000000 in
set_option maxRecDepth 100000 in
theorem amqvalue_Depth.calls (k : Nat) : ∀ (a0_0 : Int) (a0_1 : Int) (a0_2 : ByteArray) (A0_3 : Option Addr) (c0_3 : Nat) (l0_3 : List (Vl)) (r : Int) (w : World) (hr0_3 : Kd.C kV w A0_3 l0_3.length l0_3) (hc0_3 : l0_3.length ≤ c0_3) (h : amqvalue_Depth.f k a0_0 a0_1 a0_2 l0_3 = some r),
    Calls Tryd.prog 50 #[.agg #[.int .i64 a0_0, .int .u64 a0_1, .string a0_2, .slice A0_3 l0_3.length c0_3]] w fun e w' => e = .returned (.int .i64 r) ∧ Below w.heap.size w w' := by
  induction k using Nat.strongRecOn with
  | _ k ih =>
  intro a0_0 a0_1 a0_2 A0_3 c0_3 l0_3 r w hr0_3 hc0_3 h
  cases k with
  | zero => exact absurd h (by simp [amqvalue_Depth.f])
  | succ k =>
  simp only [amqvalue_Depth.f] at h
  have hu25 := Tryd.underlying25
  have HR0_3 := Aside0.mk hr0_3
  have HC0_3 := Aside0.mk hc0_3
  clear hr0_3 hc0_3
  have HB := Aside0.mk (Below.refl w.heap.size w)
  have H : (amqvalue_Depth.l0 k 0 l0_3 (l0_3.length : Int) 0 a0_0 a0_1 a0_2 l0_3) = some r := h
  clear h
  have H' := Aside0.mk H
  clear H
  go_enter Tryd.func50, Tryd.ntmps50
  go_wp2_with (first | ((with_reducible refine gate_dst (N := 1) rfl ?_); refine box_event ?hg (N := 1) ?hd (cs := #[.int .i64 a0_0, .int .u64 a0_1, .string a0_2, .slice A0_3 l0_3.length c0_3]) (t := 25) ?hr ?_; (case hd => rfl); (case hg => rfl); (case hr => first | (go_simp; done) | (go_simp; rfl)); intro gb1049 hg w2 hbox hb; have n0_ := Aside0.mk (below_step (by repeat (first | (with_reducible first | exact HB.out | apply below_alloc | apply pw_below_drewN | apply below_drew1) | exact HB.out)) hb); have n1_ := Aside0.mk (hbox); have n2_ := Aside0.mk ((by rw [hg]; exact (below_size (by repeat (first | (with_reducible first | exact HB.out | apply below_alloc | apply pw_below_drewN | apply below_drew1) | exact HB.out))) : w.heap.size ≤ gb1049)); have n3_ := Aside0.mk ((by rw [hg]; exact (below_size (by repeat (first | (with_reducible first | exact HB.out | apply below_alloc | apply pw_below_drewN | apply below_drew1) | exact HB.out))) : w.heap.size ≤ gb1049)); clear HB; have HB := n0_; have BK1049 := n1_; have GW1049 := n2_; have GE1049 := n3_; clear n0_ n1_ n2_ n3_; clear hb hbox hg; have hcz3_0 : w2.cell? ⟨gb1049, 0, none⟩ = some (.int .i64 a0_0) := (blk_cell BK1049.out 0).trans rfl; have hcz3_1 : w2.cell? ⟨gb1049, 1, none⟩ = some (.int .u64 a0_1) := (blk_cell BK1049.out 1).trans rfl; have hcz3_2 : w2.cell? ⟨gb1049, 2, none⟩ = some (.string a0_2) := (blk_cell BK1049.out 2).trans rfl; have hcz3_3 : w2.cell? ⟨gb1049, 3, none⟩ = some (.slice A0_3 l0_3.length c0_3) := (blk_cell BK1049.out 3).trans rfl; have hfz3_0 := blk_frozen BK1049.out 0; have hfz3_1 := blk_frozen BK1049.out 1; have hfz3_2 := blk_frozen BK1049.out 2; have hfz3_3 := blk_frozen BK1049.out 3))
  go_loopg [3, 9] k (fun kq v3 v9 w' => ∃ (x3_1 : Int) (x9_1 : Int), v3 = .int .i64 x3_1 ∧ v9 = .int .i64 x9_1 ∧ Aside0 (amqvalue_Depth.l0 kq x3_1 l0_3 (l0_3.length : Int) x9_1 a0_0 a0_1 a0_2 l0_3 = some r) ∧ Aside0 (kq ≤ k) ∧ Aside0 (w'.heap[gb1049]? = some (.cells #[.int .i64 a0_0, .int .u64 a0_1, .string a0_2, (.slice A0_3 l0_3.length c0_3)] 25 (0, 0))) ∧ Aside0 (Below w.heap.size w w'))
  case atStart => exact ⟨(0), (0), (by first | rfl | (simp; done) | (simp [*]; done)), (by first | rfl | (simp; done) | (simp [*]; done)), H', ⟨Nat.le_refl _⟩, ⟨by (with_reducible repeat (first | refine blk_drewN ?_ _ | refine blk_drew ?_ | refine blk_alloc ?_ _)); exact BK1049.out⟩, ⟨by repeat (first | (with_reducible first | exact HB.out | apply below_alloc | apply pw_below_drewN | apply below_drew1 | refine below_set ?_ GE1049.out) | exact HB.out)⟩⟩
  case round =>
   clear H'
   try clear p2
   try clear hcz3_0
   try clear hcz3_1
   try clear hcz3_2
   try clear hcz3_3
   try clear hfz3_0
   try clear hfz3_1
   try clear hfz3_2
   try clear hfz3_3
   obtain ⟨x3_1, x9_1, rfl, rfl, HA, HK1, BK1049, HB⟩ := hrel
   cases gk with
   | zero => exact absurd HA.out (by simp [amqvalue_Depth.l0])
   | succ k1 =>
    have H := HA.out
    clear HA
    simp only [amqvalue_Depth.l0] at H
    by_cases c4 : x9_1 < (l0_3.length : Int)
    ·rw [if_pos c4] at H
     have c4b0 : decide (x9_1 < (l0_3.length : Int)) = true := decide_eq_true c4
     clear c4
     by_cases c5 : 0 ≤ x9_1
     ·rw [if_pos c5] at H
      have c5b0 : decide (0 ≤ x9_1) = true := decide_eq_true c5
      clear c5
      by_cases c6 : x9_1 < (l0_3.length : Int)
      ·rw [if_pos c6] at H
       have c6b0 : decide (x9_1 < (l0_3.length : Int)) = true := decide_eq_true c6
       clear c6
       replace H := Option.bind_eq_some_iff.mp H
       obtain ⟨t1052, A70, H⟩ := H
       replace H : (amqvalue_Depth.l0 k1 (mx x3_1 t1052) l0_3 (l0_3.length : Int) (wrap64 (x9_1 + 1)) a0_0 a0_1 a0_2 l0_3) = some r := H
       have A7 := Aside0.mk A70
       clear A70
       obtain ⟨ji8, hji8⟩ : ∃ j_ : Int, (mx x3_1 t1052) = j_ := ⟨_, rfl⟩
       replace H : (amqvalue_Depth.l0 k1 ji8 l0_3 (l0_3.length : Int) (wrap64 (x9_1 + 1)) a0_0 a0_1 a0_2 l0_3) = some r := by first | (rw [hji8] at H; exact H) | (simp only [hji8] at H ⊢; exact H)
       (try rw [hji8] at A7)
       have hji8_ : (if x3_1 < t1052 then t1052 else x3_1) = ji8 := hji8
       have H' := Aside0.mk H
       clear H
       have p1050 : 0 ≤ (x9_1 : Int) := of_decide_eq_true (by first | (with_reducible assumption) | assumption)
       have q1050 : x9_1 < (l0_3.length : Int) := of_decide_eq_true (by first | (with_reducible assumption) | assumption)
       obtain ⟨ad1050, A1050_3, c1050_3, e1050, hx1050_0, hx1050_1, hx1050_2, hx1050_3, hl1050_3, hi1050_3⟩ := atV HR0_3.out x9_1 p1050 q1050
       cases e1050
       replace hx1050_0 := (HB.out.cell (World.block_lt_of_cell? w _ hx1050_0)).trans hx1050_0
       replace hx1050_1 := (HB.out.cell (World.block_lt_of_cell? w _ hx1050_1)).trans hx1050_1
       replace hx1050_2 := (HB.out.cell (World.block_lt_of_cell? w _ hx1050_2)).trans hx1050_2
       replace hx1050_3 := (HB.out.cell (World.block_lt_of_cell? w _ hx1050_3)).trans hx1050_3
       have HR1050_3 := Aside0.mk hi1050_3
       have HC1050_3 := Aside0.mk hl1050_3
       clear hi1050_3 hl1050_3
       replace p1050 := eq_true p1050
       replace q1050 := eq_true q1050
       go_wp2_with (first | ((with_reducible refine gate_dst (N := 5) rfl ?_); refine box_event ?hg (N := 5) ?hd (cs := #[.int .i64 0, .int .u64 0, .string (⟨#[]⟩ : ByteArray), .slice none 0 0]) (t := 25) ?hr ?_; (case hd => rfl); (case hg => rfl); (case hr => first | (go_simp; done) | (go_simp; rfl)); intro gb1051 hg w9 hbox hb; have n0_ := Aside0.mk (blk_below (g := gb1049) (o := .cells #[.int .i64 a0_0, .int .u64 a0_1, .string a0_2, .slice (some ad1050) l0_3.length c0_3] 25 (0, 0)) (by (with_reducible repeat (first | refine blk_drewN ?_ _ | refine blk_drew ?_ | refine blk_alloc ?_ _)); exact BK1049.out) hb); have n1_ := Aside0.mk (below_step (by repeat (first | (with_reducible first | exact HB.out | apply below_alloc | apply pw_below_drewN | apply below_drew1 | refine below_set ?_ GE1049.out) | exact HB.out)) hb); have n2_ := Aside0.mk (hbox); have n3_ := Aside0.mk ((by rw [hg]; exact (below_size (by repeat (first | (with_reducible first | exact HB.out | apply below_alloc | apply pw_below_drewN | apply below_drew1 | refine below_set ?_ GE1049.out) | exact HB.out))) : w.heap.size ≤ gb1051)); have n4_ := Aside0.mk ((by rw [hg]; exact (below_size (by repeat (first | (with_reducible first | exact HB.out | apply below_alloc | apply pw_below_drewN | apply below_drew1 | refine below_set ?_ GE1049.out) | exact HB.out))) : w.heap.size ≤ gb1051)); have n5_ := Aside0.mk ((by rw [hg]; exact Nat.ne_of_lt (blk_lt (g := gb1049) (o := .cells #[.int .i64 a0_0, .int .u64 a0_1, .string a0_2, .slice (some ad1050) l0_3.length c0_3] 25 (0, 0)) (by (with_reducible repeat (first | refine blk_drewN ?_ _ | refine blk_drew ?_ | refine blk_alloc ?_ _)); exact BK1049.out)) : gb1049 ≠ gb1051)); have n6_ := Aside0.mk ((by rw [hg]; exact Nat.ne_of_gt (blk_lt (g := gb1049) (o := .cells #[.int .i64 a0_0, .int .u64 a0_1, .string a0_2, .slice (some ad1050) l0_3.length c0_3] 25 (0, 0)) (by (with_reducible repeat (first | refine blk_drewN ?_ _ | refine blk_drew ?_ | refine blk_alloc ?_ _)); exact BK1049.out)) : gb1051 ≠ gb1049)); clear BK1049; clear HB; have BK1049 := n0_; have HB := n1_; have BK1051 := n2_; have GW1051 := n3_; have GE1051 := n4_; have NB1049_1051 := n5_; have NB1051_1049 := n6_; clear n0_ n1_ n2_ n3_ n4_ n5_ n6_; clear hb hbox hg; have hnb10 := NB1051_1049.out; have hnc10 := NB1049_1051.out; have hcz11_0 : w9.cell? ⟨gb1051, 0, none⟩ = some (.int .i64 0) := (blk_cell BK1051.out 0).trans rfl; have hcz11_1 : w9.cell? ⟨gb1051, 1, none⟩ = some (.int .u64 0) := (blk_cell BK1051.out 1).trans rfl; have hcz11_2 : w9.cell? ⟨gb1051, 2, none⟩ = some (.string (⟨#[]⟩ : ByteArray)) := (blk_cell BK1051.out 2).trans rfl; have hcz11_3 : w9.cell? ⟨gb1051, 3, none⟩ = some (.slice none 0 0) := (blk_cell BK1051.out 3).trans rfl; have hfz11_0 := blk_frozen BK1051.out 0; have hfz11_1 := blk_frozen BK1051.out 1; have hfz11_2 := blk_frozen BK1051.out 2; have hfz11_3 := blk_frozen BK1051.out 3) | ((with_reducible refine gate_callee (f := 50) rfl ?_); refine goesL_ (some 15) rfl rfl Tryd.func50 (by kernel_rfl) rfl #[.agg #[.int .i64 ((rdV l0_3 x9_1).kind), .int .u64 ((rdV l0_3 x9_1).n), .string ((rdV l0_3 x9_1).text), .slice A1050_3 ((rdV l0_3 x9_1).items).length c1050_3]] rfl (by (try simp only [List.map_toArray, List.map_cons, List.map_nil]); first | done | rfl | (simp only [List.length_drop, List.length_take]; rfl)) ?_; (with_reducible refine (ih k1 (by have := HK1.out; omega) ((rdV l0_3 x9_1).kind) ((rdV l0_3 x9_1).n) ((rdV l0_3 x9_1).text) _ _ ((rdV l0_3 x9_1).items) t1052 _ ?side1 ?side2 A7.out).mono ?_); (case side1 => exact Kd.C_below HR1050_3.out (by repeat (first | (with_reducible first | exact HB.out | apply below_alloc | apply pw_below_drewN | apply below_drew1 | refine below_set ?_ GE1049.out | refine below_set ?_ GE1051.out) | exact HB.out))); (case side2 => exact HC1050_3.out); rintro e w12 ⟨rfl, hb⟩; refine ⟨_, rfl, ?_⟩; have n0_ := Aside0.mk (blk_below (g := gb1049) (o := .cells #[.int .i64 a0_0, .int .u64 a0_1, .string a0_2, .slice (some ad1050) l0_3.length c0_3] 25 (0, 0)) (by (with_reducible repeat (first | refine blk_drewN ?_ _ | refine blk_drew ?_ | refine blk_alloc ?_ _)); refine blk_far ?_ NB1049_1051.out _; (with_reducible repeat (first | refine blk_drewN ?_ _ | refine blk_drew ?_ | refine blk_alloc ?_ _)); refine blk_far ?_ NB1049_1051.out _; (with_reducible repeat (first | refine blk_drewN ?_ _ | refine blk_drew ?_ | refine blk_alloc ?_ _)); refine blk_far ?_ NB1049_1051.out _; (with_reducible repeat (first | refine blk_drewN ?_ _ | refine blk_drew ?_ | refine blk_alloc ?_ _)); refine blk_far ?_ NB1049_1051.out _; (with_reducible repeat (first | refine blk_drewN ?_ _ | refine blk_drew ?_ | refine blk_alloc ?_ _)); exact BK1049.out) hb); have n1_ := Aside0.mk (blk_below (g := gb1051) (o := .cells #[.int .i64 ((rdV l0_3 x9_1).kind), .int .u64 ((rdV l0_3 x9_1).n), .string ((rdV l0_3 x9_1).text), .slice A1050_3 ((rdV l0_3 x9_1).items).length c1050_3] 25 (0, 0)) (by (with_reducible repeat (first | refine blk_drewN ?_ _ | refine blk_drew ?_ | refine blk_alloc ?_ _)); refine blk_put (cs := #[.int .i64 ((rdV l0_3 x9_1).kind), .int .u64 ((rdV l0_3 x9_1).n), .string ((rdV l0_3 x9_1).text), .slice none 0 0]) ?_ 3 _ rfl; (with_reducible repeat (first | refine blk_drewN ?_ _ | refine blk_drew ?_ | refine blk_alloc ?_ _)); refine blk_put (cs := #[.int .i64 ((rdV l0_3 x9_1).kind), .int .u64 ((rdV l0_3 x9_1).n), .string (⟨#[]⟩ : ByteArray), .slice none 0 0]) ?_ 2 _ rfl; (with_reducible repeat (first | refine blk_drewN ?_ _ | refine blk_drew ?_ | refine blk_alloc ?_ _)); refine blk_put (cs := #[.int .i64 ((rdV l0_3 x9_1).kind), .int .u64 0, .string (⟨#[]⟩ : ByteArray), .slice none 0 0]) ?_ 1 _ rfl; (with_reducible repeat (first | refine blk_drewN ?_ _ | refine blk_drew ?_ | refine blk_alloc ?_ _)); refine blk_put (cs := #[.int .i64 0, .int .u64 0, .string (⟨#[]⟩ : ByteArray), .slice none 0 0]) ?_ 0 _ rfl; (with_reducible repeat (first | refine blk_drewN ?_ _ | refine blk_drew ?_ | refine blk_alloc ?_ _)); exact BK1051.out) hb); have n2_ := Aside0.mk (below_step (by repeat (first | (with_reducible first | exact HB.out | apply below_alloc | apply pw_below_drewN | apply below_drew1 | refine below_set ?_ GE1049.out | refine below_set ?_ GE1051.out) | exact HB.out)) hb); clear BK1049; clear BK1051; clear HB; have BK1049 := n0_; have BK1051 := n1_; have HB := n2_; clear n0_ n1_ n2_; (try clear hb); (try clear hb2); (try clear hk); (try clear hi)))
       go_roundg k1
       case measure => have := HK1.out; omega
       case rel => exact ⟨(ji8), (wrap64 (x9_1 + 1)), (by first | rfl | (simp; done) | (simp only [← hji8] <;> (first | rfl | simp)) | (simp [*]; done)), (by first | rfl | (simp; done) | (simp [*]; done)), H', ⟨by have := HK1.out; omega⟩, ⟨by (with_reducible repeat (first | refine blk_drewN ?_ _ | refine blk_drew ?_ | refine blk_alloc ?_ _)); exact BK1049.out⟩, ⟨by repeat (first | (with_reducible first | exact HB.out | apply below_alloc | apply pw_below_drewN | apply below_drew1 | refine below_set ?_ GE1049.out | refine below_set ?_ GE1051.out) | exact HB.out)⟩⟩
      ·rw [if_neg c6] at H
       exact absurd H (by simp)
     ·rw [if_neg c5] at H
      exact absurd H (by simp)
    ·rw [if_neg c4] at H
     have c4b0 : decide (x9_1 < (l0_3.length : Int)) = false := decide_eq_false c4
     clear c4
     by_cases c13 : (l0_3.length : Int) = 0
     ·rw [if_pos c13] at H
      have c13b0 : ((l0_3.length : Int) == 0) = true := beq_iff_eq.mpr c13
      have c13b1 : ((l0_3.length : Int) != 0) = false := bne_eq_false_iff_eq.mpr c13
      clear c13
      by_cases c14 : a0_0 < 22
      ·rw [if_pos c14] at H
       have c14b0 : decide (a0_0 < 22) = true := decide_eq_true c14
       clear c14
       obtain rfl := Option.some.inj H
       have hcz15_0 : wr.cell? ⟨gb1049, 0, none⟩ = some (.int .i64 a0_0) := (blk_cell BK1049.out 0).trans rfl
       have hcz15_1 : wr.cell? ⟨gb1049, 1, none⟩ = some (.int .u64 a0_1) := (blk_cell BK1049.out 1).trans rfl
       have hcz15_2 : wr.cell? ⟨gb1049, 2, none⟩ = some (.string a0_2) := (blk_cell BK1049.out 2).trans rfl
       have hcz15_3 : wr.cell? ⟨gb1049, 3, none⟩ = some (.slice A0_3 l0_3.length c0_3) := (blk_cell BK1049.out 3).trans rfl
       have hfz15_0 := blk_frozen BK1049.out 0
       have hfz15_1 := blk_frozen BK1049.out 1
       have hfz15_2 := blk_frozen BK1049.out 2
       have hfz15_3 := blk_frozen BK1049.out 3
       go_wp2
       go_ret
       exact ⟨by first | rfl | (simp [errW_none, errW_some] <;> rfl) | (simp [*, errW_none, errW_some] <;> rfl), by repeat (first | (with_reducible first | exact HB.out | apply below_alloc | apply pw_below_drewN | apply below_drew1 | refine below_set ?_ GE1049.out) | exact HB.out)⟩
      ·rw [if_neg c14] at H
       have c14b0 : decide (a0_0 < 22) = false := decide_eq_false c14
       clear c14
       by_cases c16 : a0_0 > 25
       ·rw [if_pos c16] at H
        have c16b0 : decide (25 < a0_0) = true := decide_eq_true c16
        clear c16
        obtain rfl := Option.some.inj H
        have hcz17_0 : wr.cell? ⟨gb1049, 0, none⟩ = some (.int .i64 a0_0) := (blk_cell BK1049.out 0).trans rfl
        have hcz17_1 : wr.cell? ⟨gb1049, 1, none⟩ = some (.int .u64 a0_1) := (blk_cell BK1049.out 1).trans rfl
        have hcz17_2 : wr.cell? ⟨gb1049, 2, none⟩ = some (.string a0_2) := (blk_cell BK1049.out 2).trans rfl
        have hcz17_3 : wr.cell? ⟨gb1049, 3, none⟩ = some (.slice A0_3 l0_3.length c0_3) := (blk_cell BK1049.out 3).trans rfl
        have hfz17_0 := blk_frozen BK1049.out 0
        have hfz17_1 := blk_frozen BK1049.out 1
        have hfz17_2 := blk_frozen BK1049.out 2
        have hfz17_3 := blk_frozen BK1049.out 3
        go_wp2
        go_ret
        exact ⟨by first | rfl | (simp [errW_none, errW_some] <;> rfl) | (simp [*, errW_none, errW_some] <;> rfl), by repeat (first | (with_reducible first | exact HB.out | apply below_alloc | apply pw_below_drewN | apply below_drew1 | refine below_set ?_ GE1049.out) | exact HB.out)⟩
       ·rw [if_neg c16] at H
        have c16b0 : decide (25 < a0_0) = false := decide_eq_false c16
        clear c16
        obtain rfl := Option.some.inj H
        have hcz18_0 : wr.cell? ⟨gb1049, 0, none⟩ = some (.int .i64 a0_0) := (blk_cell BK1049.out 0).trans rfl
        have hcz18_1 : wr.cell? ⟨gb1049, 1, none⟩ = some (.int .u64 a0_1) := (blk_cell BK1049.out 1).trans rfl
        have hcz18_2 : wr.cell? ⟨gb1049, 2, none⟩ = some (.string a0_2) := (blk_cell BK1049.out 2).trans rfl
        have hcz18_3 : wr.cell? ⟨gb1049, 3, none⟩ = some (.slice A0_3 l0_3.length c0_3) := (blk_cell BK1049.out 3).trans rfl
        have hfz18_0 := blk_frozen BK1049.out 0
        have hfz18_1 := blk_frozen BK1049.out 1
        have hfz18_2 := blk_frozen BK1049.out 2
        have hfz18_3 := blk_frozen BK1049.out 3
        go_wp2
        go_ret
        exact ⟨by first | rfl | (simp [errW_none, errW_some] <;> rfl) | (simp [*, errW_none, errW_some] <;> rfl), by repeat (first | (with_reducible first | exact HB.out | apply below_alloc | apply pw_below_drewN | apply below_drew1 | refine below_set ?_ GE1049.out) | exact HB.out)⟩
     ·rw [if_neg c13] at H
      have c13b0 : ((l0_3.length : Int) == 0) = false := beq_eq_false_iff_ne.mpr c13
      have c13b1 : ((l0_3.length : Int) != 0) = true := bne_iff_ne.mpr c13
      have c13b2 : ¬ (l0_3 = []) := fun h_ => c13 (by rw [h_]; rfl)
      obtain rfl := Option.some.inj H
      have hcz19_0 : wr.cell? ⟨gb1049, 0, none⟩ = some (.int .i64 a0_0) := (blk_cell BK1049.out 0).trans rfl
      have hcz19_1 : wr.cell? ⟨gb1049, 1, none⟩ = some (.int .u64 a0_1) := (blk_cell BK1049.out 1).trans rfl
      have hcz19_2 : wr.cell? ⟨gb1049, 2, none⟩ = some (.string a0_2) := (blk_cell BK1049.out 2).trans rfl
      have hcz19_3 : wr.cell? ⟨gb1049, 3, none⟩ = some (.slice A0_3 l0_3.length c0_3) := (blk_cell BK1049.out 3).trans rfl
      have hfz19_0 := blk_frozen BK1049.out 0
      have hfz19_1 := blk_frozen BK1049.out 1
      have hfz19_2 := blk_frozen BK1049.out 2
      have hfz19_3 := blk_frozen BK1049.out 3
      go_wp2
      go_ret
      exact ⟨by first | rfl | (simp [errW_none, errW_some] <;> rfl) | (simp [*, errW_none, errW_some] <;> rfl), by repeat (first | (with_reducible first | exact HB.out | apply below_alloc | apply pw_below_drewN | apply below_drew1 | refine below_set ?_ GE1049.out) | exact HB.out)⟩
set_option maxHeartbeats 8000000 in
set_option maxRecDepth 100000 in
theorem amqvalue_shaped.calls (a0_0 : Int) (a0_1 : Int) (a0_2 : ByteArray) (A0_3 : Option Addr) (c0_3 : Nat) (l0_3 : List (Vl)) (r : Bool) (w : World) (hr0_3 : Kd.C kV w A0_3 l0_3.length l0_3) (hc0_3 : l0_3.length ≤ c0_3) (h : amqvalue_shaped.f a0_0 a0_1 a0_2 l0_3 = some r) :
    Calls Tryd.prog 110 #[.agg #[.int .i64 a0_0, .int .u64 a0_1, .string a0_2, .slice A0_3 l0_3.length c0_3]] w fun e w' => e = .returned (.bool r) ∧ Below w.heap.size w w' := by
  have hu25 := Tryd.underlying25
  have HR0_3 := Aside0.mk hr0_3
  have HC0_3 := Aside0.mk hc0_3
  clear hr0_3 hc0_3
  have HB := Aside0.mk (Below.refl w.heap.size w)
  have H : (if a0_2.toList = ([] : List UInt8) then (if a0_0 = 24 then (if a0_1 ≥ 1 then (some (decide (a0_1 ≤ 24))) else (some false)) else (if a0_1 = 0 then (if a0_0 = 25 then (some ((l0_3.length : Int) == 2)) else (if a0_0 = 23 then (some (((l0_3.length : Int) % 2) == 0)) else (some true))) else (some false))) else (some false)) = some r := h
  clear h
  by_cases c2 : a0_2.toList = ([] : List UInt8)
  ·rw [if_pos c2] at H
   have c2b0 : (a0_2.toList == ([] : List UInt8)) = true := beq_iff_eq.mpr c2
   have c2b1 : (a0_2.toList != ([] : List UInt8)) = false := bne_eq_false_iff_eq.mpr c2
   clear c2
   by_cases c3 : a0_0 = 24
   ·rw [if_pos c3] at H
    have c3b0 : (a0_0 == 24) = true := beq_iff_eq.mpr c3
    have c3b1 : (a0_0 != 24) = false := bne_eq_false_iff_eq.mpr c3
    clear c3
    by_cases c4 : a0_1 ≥ 1
    ·rw [if_pos c4] at H
     have c4b0 : decide (1 ≤ a0_1) = true := decide_eq_true c4
     clear c4
     obtain rfl := Option.some.inj H
     go_enter Tryd.func110, Tryd.ntmps110
     go_wp2_with (first | ((with_reducible refine gate_dst (N := 1) rfl ?_); refine box_event ?hg (N := 1) ?hd (cs := #[.int .i64 a0_0, .int .u64 a0_1, .string a0_2, .slice A0_3 l0_3.length c0_3]) (t := 25) ?hr ?_; (case hd => rfl); (case hg => rfl); (case hr => first | (go_simp; done) | (go_simp; rfl)); intro gb1715 hg w5 hbox hb; have n0_ := Aside0.mk (below_step (by repeat (first | (with_reducible first | exact HB.out | apply below_alloc | apply pw_below_drewN | apply below_drew1) | exact HB.out)) hb); have n1_ := Aside0.mk (hbox); have n2_ := Aside0.mk ((by rw [hg]; exact (below_size (by repeat (first | (with_reducible first | exact HB.out | apply below_alloc | apply pw_below_drewN | apply below_drew1) | exact HB.out))) : w.heap.size ≤ gb1715)); have n3_ := Aside0.mk ((by rw [hg]; exact (below_size (by repeat (first | (with_reducible first | exact HB.out | apply below_alloc | apply pw_below_drewN | apply below_drew1) | exact HB.out))) : w.heap.size ≤ gb1715)); clear HB; have HB := n0_; have BK1715 := n1_; have GW1715 := n2_; have GE1715 := n3_; clear n0_ n1_ n2_ n3_; clear hb hbox hg; have hcz6_0 : w5.cell? ⟨gb1715, 0, none⟩ = some (.int .i64 a0_0) := (blk_cell BK1715.out 0).trans rfl; have hcz6_1 : w5.cell? ⟨gb1715, 1, none⟩ = some (.int .u64 a0_1) := (blk_cell BK1715.out 1).trans rfl; have hcz6_2 : w5.cell? ⟨gb1715, 2, none⟩ = some (.string a0_2) := (blk_cell BK1715.out 2).trans rfl; have hcz6_3 : w5.cell? ⟨gb1715, 3, none⟩ = some (.slice A0_3 l0_3.length c0_3) := (blk_cell BK1715.out 3).trans rfl; have hfz6_0 := blk_frozen BK1715.out 0; have hfz6_1 := blk_frozen BK1715.out 1; have hfz6_2 := blk_frozen BK1715.out 2; have hfz6_3 := blk_frozen BK1715.out 3))
     go_ret
     exact ⟨by first | rfl | (simp [errW_none, errW_some] <;> rfl) | (simp [*, errW_none, errW_some] <;> rfl), by repeat (first | (with_reducible first | exact HB.out | apply below_alloc | apply pw_below_drewN | apply below_drew1 | refine below_set ?_ GE1715.out) | exact HB.out)⟩
    ·rw [if_neg c4] at H
     have c4b0 : decide (1 ≤ a0_1) = false := decide_eq_false c4
     clear c4
     obtain rfl := Option.some.inj H
     go_enter Tryd.func110, Tryd.ntmps110
     go_wp2_with (first | ((with_reducible refine gate_dst (N := 1) rfl ?_); refine box_event ?hg (N := 1) ?hd (cs := #[.int .i64 a0_0, .int .u64 a0_1, .string a0_2, .slice A0_3 l0_3.length c0_3]) (t := 25) ?hr ?_; (case hd => rfl); (case hg => rfl); (case hr => first | (go_simp; done) | (go_simp; rfl)); intro gb1715 hg w7 hbox hb; have n0_ := Aside0.mk (below_step (by repeat (first | (with_reducible first | exact HB.out | apply below_alloc | apply pw_below_drewN | apply below_drew1) | exact HB.out)) hb); have n1_ := Aside0.mk (hbox); have n2_ := Aside0.mk ((by rw [hg]; exact (below_size (by repeat (first | (with_reducible first | exact HB.out | apply below_alloc | apply pw_below_drewN | apply below_drew1) | exact HB.out))) : w.heap.size ≤ gb1715)); have n3_ := Aside0.mk ((by rw [hg]; exact (below_size (by repeat (first | (with_reducible first | exact HB.out | apply below_alloc | apply pw_below_drewN | apply below_drew1) | exact HB.out))) : w.heap.size ≤ gb1715)); clear HB; have HB := n0_; have BK1715 := n1_; have GW1715 := n2_; have GE1715 := n3_; clear n0_ n1_ n2_ n3_; clear hb hbox hg; have hcz8_0 : w7.cell? ⟨gb1715, 0, none⟩ = some (.int .i64 a0_0) := (blk_cell BK1715.out 0).trans rfl; have hcz8_1 : w7.cell? ⟨gb1715, 1, none⟩ = some (.int .u64 a0_1) := (blk_cell BK1715.out 1).trans rfl; have hcz8_2 : w7.cell? ⟨gb1715, 2, none⟩ = some (.string a0_2) := (blk_cell BK1715.out 2).trans rfl; have hcz8_3 : w7.cell? ⟨gb1715, 3, none⟩ = some (.slice A0_3 l0_3.length c0_3) := (blk_cell BK1715.out 3).trans rfl; have hfz8_0 := blk_frozen BK1715.out 0; have hfz8_1 := blk_frozen BK1715.out 1; have hfz8_2 := blk_frozen BK1715.out 2; have hfz8_3 := blk_frozen BK1715.out 3))
     go_ret
     exact ⟨by first | rfl | (simp [errW_none, errW_some] <;> rfl) | (simp [*, errW_none, errW_some] <;> rfl), by repeat (first | (with_reducible first | exact HB.out | apply below_alloc | apply pw_below_drewN | apply below_drew1 | refine below_set ?_ GE1715.out) | exact HB.out)⟩
   ·rw [if_neg c3] at H
    have c3b0 : (a0_0 == 24) = false := beq_eq_false_iff_ne.mpr c3
    have c3b1 : (a0_0 != 24) = true := bne_iff_ne.mpr c3
    by_cases c9 : a0_1 = 0
    ·rw [if_pos c9] at H
     have c9b0 : (a0_1 == 0) = true := beq_iff_eq.mpr c9
     have c9b1 : (a0_1 != 0) = false := bne_eq_false_iff_eq.mpr c9
     clear c9
     by_cases c10 : a0_0 = 25
     ·rw [if_pos c10] at H
      have c10b0 : (a0_0 == 25) = true := beq_iff_eq.mpr c10
      have c10b1 : (a0_0 != 25) = false := bne_eq_false_iff_eq.mpr c10
      clear c10
      obtain rfl := Option.some.inj H
      go_enter Tryd.func110, Tryd.ntmps110
      go_wp2_with (first | ((with_reducible refine gate_dst (N := 1) rfl ?_); refine box_event ?hg (N := 1) ?hd (cs := #[.int .i64 a0_0, .int .u64 a0_1, .string a0_2, .slice A0_3 l0_3.length c0_3]) (t := 25) ?hr ?_; (case hd => rfl); (case hg => rfl); (case hr => first | (go_simp; done) | (go_simp; rfl)); intro gb1715 hg w11 hbox hb; have n0_ := Aside0.mk (below_step (by repeat (first | (with_reducible first | exact HB.out | apply below_alloc | apply pw_below_drewN | apply below_drew1) | exact HB.out)) hb); have n1_ := Aside0.mk (hbox); have n2_ := Aside0.mk ((by rw [hg]; exact (below_size (by repeat (first | (with_reducible first | exact HB.out | apply below_alloc | apply pw_below_drewN | apply below_drew1) | exact HB.out))) : w.heap.size ≤ gb1715)); have n3_ := Aside0.mk ((by rw [hg]; exact (below_size (by repeat (first | (with_reducible first | exact HB.out | apply below_alloc | apply pw_below_drewN | apply below_drew1) | exact HB.out))) : w.heap.size ≤ gb1715)); clear HB; have HB := n0_; have BK1715 := n1_; have GW1715 := n2_; have GE1715 := n3_; clear n0_ n1_ n2_ n3_; clear hb hbox hg; have hcz12_0 : w11.cell? ⟨gb1715, 0, none⟩ = some (.int .i64 a0_0) := (blk_cell BK1715.out 0).trans rfl; have hcz12_1 : w11.cell? ⟨gb1715, 1, none⟩ = some (.int .u64 a0_1) := (blk_cell BK1715.out 1).trans rfl; have hcz12_2 : w11.cell? ⟨gb1715, 2, none⟩ = some (.string a0_2) := (blk_cell BK1715.out 2).trans rfl; have hcz12_3 : w11.cell? ⟨gb1715, 3, none⟩ = some (.slice A0_3 l0_3.length c0_3) := (blk_cell BK1715.out 3).trans rfl; have hfz12_0 := blk_frozen BK1715.out 0; have hfz12_1 := blk_frozen BK1715.out 1; have hfz12_2 := blk_frozen BK1715.out 2; have hfz12_3 := blk_frozen BK1715.out 3))
      go_ret
      exact ⟨by first | rfl | (simp [errW_none, errW_some] <;> rfl) | (simp [*, errW_none, errW_some] <;> rfl), by repeat (first | (with_reducible first | exact HB.out | apply below_alloc | apply pw_below_drewN | apply below_drew1 | refine below_set ?_ GE1715.out) | exact HB.out)⟩
     ·rw [if_neg c10] at H
      have c10b0 : (a0_0 == 25) = false := beq_eq_false_iff_ne.mpr c10
      have c10b1 : (a0_0 != 25) = true := bne_iff_ne.mpr c10
      by_cases c13 : a0_0 = 23
      ·rw [if_pos c13] at H
       have c13b0 : (a0_0 == 23) = true := beq_iff_eq.mpr c13
       have c13b1 : (a0_0 != 23) = false := bne_eq_false_iff_eq.mpr c13
       clear c13
       obtain rfl := Option.some.inj H
       go_enter Tryd.func110, Tryd.ntmps110
       go_wp2_with (first | ((with_reducible refine gate_dst (N := 1) rfl ?_); refine box_event ?hg (N := 1) ?hd (cs := #[.int .i64 a0_0, .int .u64 a0_1, .string a0_2, .slice A0_3 l0_3.length c0_3]) (t := 25) ?hr ?_; (case hd => rfl); (case hg => rfl); (case hr => first | (go_simp; done) | (go_simp; rfl)); intro gb1715 hg w14 hbox hb; have n0_ := Aside0.mk (below_step (by repeat (first | (with_reducible first | exact HB.out | apply below_alloc | apply pw_below_drewN | apply below_drew1) | exact HB.out)) hb); have n1_ := Aside0.mk (hbox); have n2_ := Aside0.mk ((by rw [hg]; exact (below_size (by repeat (first | (with_reducible first | exact HB.out | apply below_alloc | apply pw_below_drewN | apply below_drew1) | exact HB.out))) : w.heap.size ≤ gb1715)); have n3_ := Aside0.mk ((by rw [hg]; exact (below_size (by repeat (first | (with_reducible first | exact HB.out | apply below_alloc | apply pw_below_drewN | apply below_drew1) | exact HB.out))) : w.heap.size ≤ gb1715)); clear HB; have HB := n0_; have BK1715 := n1_; have GW1715 := n2_; have GE1715 := n3_; clear n0_ n1_ n2_ n3_; clear hb hbox hg; have hcz15_0 : w14.cell? ⟨gb1715, 0, none⟩ = some (.int .i64 a0_0) := (blk_cell BK1715.out 0).trans rfl; have hcz15_1 : w14.cell? ⟨gb1715, 1, none⟩ = some (.int .u64 a0_1) := (blk_cell BK1715.out 1).trans rfl; have hcz15_2 : w14.cell? ⟨gb1715, 2, none⟩ = some (.string a0_2) := (blk_cell BK1715.out 2).trans rfl; have hcz15_3 : w14.cell? ⟨gb1715, 3, none⟩ = some (.slice A0_3 l0_3.length c0_3) := (blk_cell BK1715.out 3).trans rfl; have hfz15_0 := blk_frozen BK1715.out 0; have hfz15_1 := blk_frozen BK1715.out 1; have hfz15_2 := blk_frozen BK1715.out 2; have hfz15_3 := blk_frozen BK1715.out 3))
       go_ret
       exact ⟨by first | rfl | (simp [errW_none, errW_some] <;> rfl) | (simp [*, errW_none, errW_some] <;> rfl), by repeat (first | (with_reducible first | exact HB.out | apply below_alloc | apply pw_below_drewN | apply below_drew1 | refine below_set ?_ GE1715.out) | exact HB.out)⟩
      ·rw [if_neg c13] at H
       have c13b0 : (a0_0 == 23) = false := beq_eq_false_iff_ne.mpr c13
       have c13b1 : (a0_0 != 23) = true := bne_iff_ne.mpr c13
       obtain rfl := Option.some.inj H
       go_enter Tryd.func110, Tryd.ntmps110
       go_wp2_with (first | ((with_reducible refine gate_dst (N := 1) rfl ?_); refine box_event ?hg (N := 1) ?hd (cs := #[.int .i64 a0_0, .int .u64 a0_1, .string a0_2, .slice A0_3 l0_3.length c0_3]) (t := 25) ?hr ?_; (case hd => rfl); (case hg => rfl); (case hr => first | (go_simp; done) | (go_simp; rfl)); intro gb1715 hg w16 hbox hb; have n0_ := Aside0.mk (below_step (by repeat (first | (with_reducible first | exact HB.out | apply below_alloc | apply pw_below_drewN | apply below_drew1) | exact HB.out)) hb); have n1_ := Aside0.mk (hbox); have n2_ := Aside0.mk ((by rw [hg]; exact (below_size (by repeat (first | (with_reducible first | exact HB.out | apply below_alloc | apply pw_below_drewN | apply below_drew1) | exact HB.out))) : w.heap.size ≤ gb1715)); have n3_ := Aside0.mk ((by rw [hg]; exact (below_size (by repeat (first | (with_reducible first | exact HB.out | apply below_alloc | apply pw_below_drewN | apply below_drew1) | exact HB.out))) : w.heap.size ≤ gb1715)); clear HB; have HB := n0_; have BK1715 := n1_; have GW1715 := n2_; have GE1715 := n3_; clear n0_ n1_ n2_ n3_; clear hb hbox hg; have hcz17_0 : w16.cell? ⟨gb1715, 0, none⟩ = some (.int .i64 a0_0) := (blk_cell BK1715.out 0).trans rfl; have hcz17_1 : w16.cell? ⟨gb1715, 1, none⟩ = some (.int .u64 a0_1) := (blk_cell BK1715.out 1).trans rfl; have hcz17_2 : w16.cell? ⟨gb1715, 2, none⟩ = some (.string a0_2) := (blk_cell BK1715.out 2).trans rfl; have hcz17_3 : w16.cell? ⟨gb1715, 3, none⟩ = some (.slice A0_3 l0_3.length c0_3) := (blk_cell BK1715.out 3).trans rfl; have hfz17_0 := blk_frozen BK1715.out 0; have hfz17_1 := blk_frozen BK1715.out 1; have hfz17_2 := blk_frozen BK1715.out 2; have hfz17_3 := blk_frozen BK1715.out 3))
       go_ret
       exact ⟨by first | rfl | (simp [errW_none, errW_some] <;> rfl) | (simp [*, errW_none, errW_some] <;> rfl), by repeat (first | (with_reducible first | exact HB.out | apply below_alloc | apply pw_below_drewN | apply below_drew1 | refine below_set ?_ GE1715.out) | exact HB.out)⟩
    ·rw [if_neg c9] at H
     have c9b0 : (a0_1 == 0) = false := beq_eq_false_iff_ne.mpr c9
     have c9b1 : (a0_1 != 0) = true := bne_iff_ne.mpr c9
     obtain rfl := Option.some.inj H
     go_enter Tryd.func110, Tryd.ntmps110
     go_wp2_with (first | ((with_reducible refine gate_dst (N := 1) rfl ?_); refine box_event ?hg (N := 1) ?hd (cs := #[.int .i64 a0_0, .int .u64 a0_1, .string a0_2, .slice A0_3 l0_3.length c0_3]) (t := 25) ?hr ?_; (case hd => rfl); (case hg => rfl); (case hr => first | (go_simp; done) | (go_simp; rfl)); intro gb1715 hg w18 hbox hb; have n0_ := Aside0.mk (below_step (by repeat (first | (with_reducible first | exact HB.out | apply below_alloc | apply pw_below_drewN | apply below_drew1) | exact HB.out)) hb); have n1_ := Aside0.mk (hbox); have n2_ := Aside0.mk ((by rw [hg]; exact (below_size (by repeat (first | (with_reducible first | exact HB.out | apply below_alloc | apply pw_below_drewN | apply below_drew1) | exact HB.out))) : w.heap.size ≤ gb1715)); have n3_ := Aside0.mk ((by rw [hg]; exact (below_size (by repeat (first | (with_reducible first | exact HB.out | apply below_alloc | apply pw_below_drewN | apply below_drew1) | exact HB.out))) : w.heap.size ≤ gb1715)); clear HB; have HB := n0_; have BK1715 := n1_; have GW1715 := n2_; have GE1715 := n3_; clear n0_ n1_ n2_ n3_; clear hb hbox hg; have hcz19_0 : w18.cell? ⟨gb1715, 0, none⟩ = some (.int .i64 a0_0) := (blk_cell BK1715.out 0).trans rfl; have hcz19_1 : w18.cell? ⟨gb1715, 1, none⟩ = some (.int .u64 a0_1) := (blk_cell BK1715.out 1).trans rfl; have hcz19_2 : w18.cell? ⟨gb1715, 2, none⟩ = some (.string a0_2) := (blk_cell BK1715.out 2).trans rfl; have hcz19_3 : w18.cell? ⟨gb1715, 3, none⟩ = some (.slice A0_3 l0_3.length c0_3) := (blk_cell BK1715.out 3).trans rfl; have hfz19_0 := blk_frozen BK1715.out 0; have hfz19_1 := blk_frozen BK1715.out 1; have hfz19_2 := blk_frozen BK1715.out 2; have hfz19_3 := blk_frozen BK1715.out 3))
     go_ret
     exact ⟨by first | rfl | (simp [errW_none, errW_some] <;> rfl) | (simp [*, errW_none, errW_some] <;> rfl), by repeat (first | (with_reducible first | exact HB.out | apply below_alloc | apply pw_below_drewN | apply below_drew1 | refine below_set ?_ GE1715.out) | exact HB.out)⟩
  ·rw [if_neg c2] at H
   have c2b0 : (a0_2.toList == ([] : List UInt8)) = false := beq_eq_false_iff_ne.mpr c2
   have c2b1 : (a0_2.toList != ([] : List UInt8)) = true := bne_iff_ne.mpr c2
   obtain rfl := Option.some.inj H
   go_enter Tryd.func110, Tryd.ntmps110
   go_wp2_with (first | ((with_reducible refine gate_dst (N := 1) rfl ?_); refine box_event ?hg (N := 1) ?hd (cs := #[.int .i64 a0_0, .int .u64 a0_1, .string a0_2, .slice A0_3 l0_3.length c0_3]) (t := 25) ?hr ?_; (case hd => rfl); (case hg => rfl); (case hr => first | (go_simp; done) | (go_simp; rfl)); intro gb1715 hg w20 hbox hb; have n0_ := Aside0.mk (below_step (by repeat (first | (with_reducible first | exact HB.out | apply below_alloc | apply pw_below_drewN | apply below_drew1) | exact HB.out)) hb); have n1_ := Aside0.mk (hbox); have n2_ := Aside0.mk ((by rw [hg]; exact (below_size (by repeat (first | (with_reducible first | exact HB.out | apply below_alloc | apply pw_below_drewN | apply below_drew1) | exact HB.out))) : w.heap.size ≤ gb1715)); have n3_ := Aside0.mk ((by rw [hg]; exact (below_size (by repeat (first | (with_reducible first | exact HB.out | apply below_alloc | apply pw_below_drewN | apply below_drew1) | exact HB.out))) : w.heap.size ≤ gb1715)); clear HB; have HB := n0_; have BK1715 := n1_; have GW1715 := n2_; have GE1715 := n3_; clear n0_ n1_ n2_ n3_; clear hb hbox hg; have hcz21_0 : w20.cell? ⟨gb1715, 0, none⟩ = some (.int .i64 a0_0) := (blk_cell BK1715.out 0).trans rfl; have hcz21_1 : w20.cell? ⟨gb1715, 1, none⟩ = some (.int .u64 a0_1) := (blk_cell BK1715.out 1).trans rfl; have hcz21_2 : w20.cell? ⟨gb1715, 2, none⟩ = some (.string a0_2) := (blk_cell BK1715.out 2).trans rfl; have hcz21_3 : w20.cell? ⟨gb1715, 3, none⟩ = some (.slice A0_3 l0_3.length c0_3) := (blk_cell BK1715.out 3).trans rfl; have hfz21_0 := blk_frozen BK1715.out 0; have hfz21_1 := blk_frozen BK1715.out 1; have hfz21_2 := blk_frozen BK1715.out 2; have hfz21_3 := blk_frozen BK1715.out 3))
   go_ret
   exact ⟨by first | rfl | (simp [errW_none, errW_some] <;> rfl) | (simp [*, errW_none, errW_some] <;> rfl), by repeat (first | (with_reducible first | exact HB.out | apply below_alloc | apply pw_below_drewN | apply below_drew1 | refine below_set ?_ GE1715.out) | exact HB.out)⟩
set_option maxHeartbeats 8000000 in
set_option maxRecDepth 100000 in
theorem amqvalue_noNumber.calls (a0_0 : Int) (a0_1 : Int) (a0_2 : ByteArray) (A0_3 : Option Addr) (c0_3 : Nat) (l0_3 : List (Vl)) (r : Bool) (w : World) (hr0_3 : Kd.C kV w A0_3 l0_3.length l0_3) (hc0_3 : l0_3.length ≤ c0_3) (h : amqvalue_noNumber.f a0_0 a0_1 a0_2 l0_3 = some r) :
    Calls Tryd.prog 166 #[.agg #[.int .i64 a0_0, .int .u64 a0_1, .string a0_2, .slice A0_3 l0_3.length c0_3]] w fun e w' => e = .returned (.bool r) ∧ Below w.heap.size w w' := by
  have hu25 := Tryd.underlying25
  have HR0_3 := Aside0.mk hr0_3
  have HC0_3 := Aside0.mk hc0_3
  clear hr0_3 hc0_3
  have HB := Aside0.mk (Below.refl w.heap.size w)
  have H : (if a0_0 = 11 then (if (Go.bits .and .u64 (a0_1 / 8388608) 255) = 255 then (some ((IntKind.u64.wrap (a0_1 * 2199023255552)) != 0)) else (some false)) else (if a0_0 = 12 then (if (Go.bits .and .u64 (a0_1 / 4503599627370496) 2047) = 2047 then (some ((IntKind.u64.wrap (a0_1 * 4096)) != 0)) else (some false)) else (some false))) = some r := h
  clear h
  by_cases c2 : a0_0 = 11
  ·rw [if_pos c2] at H
   have c2b0 : (a0_0 == 11) = true := beq_iff_eq.mpr c2
   have c2b1 : (a0_0 != 11) = false := bne_eq_false_iff_eq.mpr c2
   clear c2
   by_cases c3 : (Go.bits .and .u64 (a0_1 / 8388608) 255) = 255
   ·rw [if_pos c3] at H
    have c3b0 : ((Go.bits .and .u64 (a0_1 / 8388608) 255) == 255) = true := beq_iff_eq.mpr c3
    have c3b1 : ((Go.bits .and .u64 (a0_1 / 8388608) 255) != 255) = false := bne_eq_false_iff_eq.mpr c3
    clear c3
    obtain rfl := Option.some.inj H
    go_enter Tryd.func166, Tryd.ntmps166
    go_wp2_with (first | ((with_reducible refine gate_dst (N := 1) rfl ?_); refine box_event ?hg (N := 1) ?hd (cs := #[.int .i64 a0_0, .int .u64 a0_1, .string a0_2, .slice A0_3 l0_3.length c0_3]) (t := 25) ?hr ?_; (case hd => rfl); (case hg => rfl); (case hr => first | (go_simp; done) | (go_simp; rfl)); intro gb1716 hg w4 hbox hb; have n0_ := Aside0.mk (below_step (by repeat (first | (with_reducible first | exact HB.out | apply below_alloc | apply pw_below_drewN | apply below_drew1) | exact HB.out)) hb); have n1_ := Aside0.mk (hbox); have n2_ := Aside0.mk ((by rw [hg]; exact (below_size (by repeat (first | (with_reducible first | exact HB.out | apply below_alloc | apply pw_below_drewN | apply below_drew1) | exact HB.out))) : w.heap.size ≤ gb1716)); have n3_ := Aside0.mk ((by rw [hg]; exact (below_size (by repeat (first | (with_reducible first | exact HB.out | apply below_alloc | apply pw_below_drewN | apply below_drew1) | exact HB.out))) : w.heap.size ≤ gb1716)); clear HB; have HB := n0_; have BK1716 := n1_; have GW1716 := n2_; have GE1716 := n3_; clear n0_ n1_ n2_ n3_; clear hb hbox hg; have hcz5_0 : w4.cell? ⟨gb1716, 0, none⟩ = some (.int .i64 a0_0) := (blk_cell BK1716.out 0).trans rfl; have hcz5_1 : w4.cell? ⟨gb1716, 1, none⟩ = some (.int .u64 a0_1) := (blk_cell BK1716.out 1).trans rfl; have hcz5_2 : w4.cell? ⟨gb1716, 2, none⟩ = some (.string a0_2) := (blk_cell BK1716.out 2).trans rfl; have hcz5_3 : w4.cell? ⟨gb1716, 3, none⟩ = some (.slice A0_3 l0_3.length c0_3) := (blk_cell BK1716.out 3).trans rfl; have hfz5_0 := blk_frozen BK1716.out 0; have hfz5_1 := blk_frozen BK1716.out 1; have hfz5_2 := blk_frozen BK1716.out 2; have hfz5_3 := blk_frozen BK1716.out 3))
    go_ret
    exact ⟨by first | rfl | (simp [errW_none, errW_some] <;> rfl) | (simp [*, errW_none, errW_some] <;> rfl), by repeat (first | (with_reducible first | exact HB.out | apply below_alloc | apply pw_below_drewN | apply below_drew1 | refine below_set ?_ GE1716.out) | exact HB.out)⟩
   ·rw [if_neg c3] at H
    have c3b0 : ((Go.bits .and .u64 (a0_1 / 8388608) 255) == 255) = false := beq_eq_false_iff_ne.mpr c3
    have c3b1 : ((Go.bits .and .u64 (a0_1 / 8388608) 255) != 255) = true := bne_iff_ne.mpr c3
    obtain rfl := Option.some.inj H
    go_enter Tryd.func166, Tryd.ntmps166
    go_wp2_with (first | ((with_reducible refine gate_dst (N := 1) rfl ?_); refine box_event ?hg (N := 1) ?hd (cs := #[.int .i64 a0_0, .int .u64 a0_1, .string a0_2, .slice A0_3 l0_3.length c0_3]) (t := 25) ?hr ?_; (case hd => rfl); (case hg => rfl); (case hr => first | (go_simp; done) | (go_simp; rfl)); intro gb1716 hg w6 hbox hb; have n0_ := Aside0.mk (below_step (by repeat (first | (with_reducible first | exact HB.out | apply below_alloc | apply pw_below_drewN | apply below_drew1) | exact HB.out)) hb); have n1_ := Aside0.mk (hbox); have n2_ := Aside0.mk ((by rw [hg]; exact (below_size (by repeat (first | (with_reducible first | exact HB.out | apply below_alloc | apply pw_below_drewN | apply below_drew1) | exact HB.out))) : w.heap.size ≤ gb1716)); have n3_ := Aside0.mk ((by rw [hg]; exact (below_size (by repeat (first | (with_reducible first | exact HB.out | apply below_alloc | apply pw_below_drewN | apply below_drew1) | exact HB.out))) : w.heap.size ≤ gb1716)); clear HB; have HB := n0_; have BK1716 := n1_; have GW1716 := n2_; have GE1716 := n3_; clear n0_ n1_ n2_ n3_; clear hb hbox hg; have hcz7_0 : w6.cell? ⟨gb1716, 0, none⟩ = some (.int .i64 a0_0) := (blk_cell BK1716.out 0).trans rfl; have hcz7_1 : w6.cell? ⟨gb1716, 1, none⟩ = some (.int .u64 a0_1) := (blk_cell BK1716.out 1).trans rfl; have hcz7_2 : w6.cell? ⟨gb1716, 2, none⟩ = some (.string a0_2) := (blk_cell BK1716.out 2).trans rfl; have hcz7_3 : w6.cell? ⟨gb1716, 3, none⟩ = some (.slice A0_3 l0_3.length c0_3) := (blk_cell BK1716.out 3).trans rfl; have hfz7_0 := blk_frozen BK1716.out 0; have hfz7_1 := blk_frozen BK1716.out 1; have hfz7_2 := blk_frozen BK1716.out 2; have hfz7_3 := blk_frozen BK1716.out 3))
    go_ret
    exact ⟨by first | rfl | (simp [errW_none, errW_some] <;> rfl) | (simp [*, errW_none, errW_some] <;> rfl), by repeat (first | (with_reducible first | exact HB.out | apply below_alloc | apply pw_below_drewN | apply below_drew1 | refine below_set ?_ GE1716.out) | exact HB.out)⟩
  ·rw [if_neg c2] at H
   have c2b0 : (a0_0 == 11) = false := beq_eq_false_iff_ne.mpr c2
   have c2b1 : (a0_0 != 11) = true := bne_iff_ne.mpr c2
   by_cases c8 : a0_0 = 12
   ·rw [if_pos c8] at H
    have c8b0 : (a0_0 == 12) = true := beq_iff_eq.mpr c8
    have c8b1 : (a0_0 != 12) = false := bne_eq_false_iff_eq.mpr c8
    clear c8
    by_cases c9 : (Go.bits .and .u64 (a0_1 / 4503599627370496) 2047) = 2047
    ·rw [if_pos c9] at H
     have c9b0 : ((Go.bits .and .u64 (a0_1 / 4503599627370496) 2047) == 2047) = true := beq_iff_eq.mpr c9
     have c9b1 : ((Go.bits .and .u64 (a0_1 / 4503599627370496) 2047) != 2047) = false := bne_eq_false_iff_eq.mpr c9
     clear c9
     obtain rfl := Option.some.inj H
     go_enter Tryd.func166, Tryd.ntmps166
     go_wp2_with (first | ((with_reducible refine gate_dst (N := 1) rfl ?_); refine box_event ?hg (N := 1) ?hd (cs := #[.int .i64 a0_0, .int .u64 a0_1, .string a0_2, .slice A0_3 l0_3.length c0_3]) (t := 25) ?hr ?_; (case hd => rfl); (case hg => rfl); (case hr => first | (go_simp; done) | (go_simp; rfl)); intro gb1716 hg w10 hbox hb; have n0_ := Aside0.mk (below_step (by repeat (first | (with_reducible first | exact HB.out | apply below_alloc | apply pw_below_drewN | apply below_drew1) | exact HB.out)) hb); have n1_ := Aside0.mk (hbox); have n2_ := Aside0.mk ((by rw [hg]; exact (below_size (by repeat (first | (with_reducible first | exact HB.out | apply below_alloc | apply pw_below_drewN | apply below_drew1) | exact HB.out))) : w.heap.size ≤ gb1716)); have n3_ := Aside0.mk ((by rw [hg]; exact (below_size (by repeat (first | (with_reducible first | exact HB.out | apply below_alloc | apply pw_below_drewN | apply below_drew1) | exact HB.out))) : w.heap.size ≤ gb1716)); clear HB; have HB := n0_; have BK1716 := n1_; have GW1716 := n2_; have GE1716 := n3_; clear n0_ n1_ n2_ n3_; clear hb hbox hg; have hcz11_0 : w10.cell? ⟨gb1716, 0, none⟩ = some (.int .i64 a0_0) := (blk_cell BK1716.out 0).trans rfl; have hcz11_1 : w10.cell? ⟨gb1716, 1, none⟩ = some (.int .u64 a0_1) := (blk_cell BK1716.out 1).trans rfl; have hcz11_2 : w10.cell? ⟨gb1716, 2, none⟩ = some (.string a0_2) := (blk_cell BK1716.out 2).trans rfl; have hcz11_3 : w10.cell? ⟨gb1716, 3, none⟩ = some (.slice A0_3 l0_3.length c0_3) := (blk_cell BK1716.out 3).trans rfl; have hfz11_0 := blk_frozen BK1716.out 0; have hfz11_1 := blk_frozen BK1716.out 1; have hfz11_2 := blk_frozen BK1716.out 2; have hfz11_3 := blk_frozen BK1716.out 3))
     go_ret
     exact ⟨by first | rfl | (simp [errW_none, errW_some] <;> rfl) | (simp [*, errW_none, errW_some] <;> rfl), by repeat (first | (with_reducible first | exact HB.out | apply below_alloc | apply pw_below_drewN | apply below_drew1 | refine below_set ?_ GE1716.out) | exact HB.out)⟩
    ·rw [if_neg c9] at H
     have c9b0 : ((Go.bits .and .u64 (a0_1 / 4503599627370496) 2047) == 2047) = false := beq_eq_false_iff_ne.mpr c9
     have c9b1 : ((Go.bits .and .u64 (a0_1 / 4503599627370496) 2047) != 2047) = true := bne_iff_ne.mpr c9
     obtain rfl := Option.some.inj H
     go_enter Tryd.func166, Tryd.ntmps166
     go_wp2_with (first | ((with_reducible refine gate_dst (N := 1) rfl ?_); refine box_event ?hg (N := 1) ?hd (cs := #[.int .i64 a0_0, .int .u64 a0_1, .string a0_2, .slice A0_3 l0_3.length c0_3]) (t := 25) ?hr ?_; (case hd => rfl); (case hg => rfl); (case hr => first | (go_simp; done) | (go_simp; rfl)); intro gb1716 hg w12 hbox hb; have n0_ := Aside0.mk (below_step (by repeat (first | (with_reducible first | exact HB.out | apply below_alloc | apply pw_below_drewN | apply below_drew1) | exact HB.out)) hb); have n1_ := Aside0.mk (hbox); have n2_ := Aside0.mk ((by rw [hg]; exact (below_size (by repeat (first | (with_reducible first | exact HB.out | apply below_alloc | apply pw_below_drewN | apply below_drew1) | exact HB.out))) : w.heap.size ≤ gb1716)); have n3_ := Aside0.mk ((by rw [hg]; exact (below_size (by repeat (first | (with_reducible first | exact HB.out | apply below_alloc | apply pw_below_drewN | apply below_drew1) | exact HB.out))) : w.heap.size ≤ gb1716)); clear HB; have HB := n0_; have BK1716 := n1_; have GW1716 := n2_; have GE1716 := n3_; clear n0_ n1_ n2_ n3_; clear hb hbox hg; have hcz13_0 : w12.cell? ⟨gb1716, 0, none⟩ = some (.int .i64 a0_0) := (blk_cell BK1716.out 0).trans rfl; have hcz13_1 : w12.cell? ⟨gb1716, 1, none⟩ = some (.int .u64 a0_1) := (blk_cell BK1716.out 1).trans rfl; have hcz13_2 : w12.cell? ⟨gb1716, 2, none⟩ = some (.string a0_2) := (blk_cell BK1716.out 2).trans rfl; have hcz13_3 : w12.cell? ⟨gb1716, 3, none⟩ = some (.slice A0_3 l0_3.length c0_3) := (blk_cell BK1716.out 3).trans rfl; have hfz13_0 := blk_frozen BK1716.out 0; have hfz13_1 := blk_frozen BK1716.out 1; have hfz13_2 := blk_frozen BK1716.out 2; have hfz13_3 := blk_frozen BK1716.out 3))
     go_ret
     exact ⟨by first | rfl | (simp [errW_none, errW_some] <;> rfl) | (simp [*, errW_none, errW_some] <;> rfl), by repeat (first | (with_reducible first | exact HB.out | apply below_alloc | apply pw_below_drewN | apply below_drew1 | refine below_set ?_ GE1716.out) | exact HB.out)⟩
   ·rw [if_neg c8] at H
    have c8b0 : (a0_0 == 12) = false := beq_eq_false_iff_ne.mpr c8
    have c8b1 : (a0_0 != 12) = true := bne_iff_ne.mpr c8
    obtain rfl := Option.some.inj H
    go_enter Tryd.func166, Tryd.ntmps166
    go_wp2_with (first | ((with_reducible refine gate_dst (N := 1) rfl ?_); refine box_event ?hg (N := 1) ?hd (cs := #[.int .i64 a0_0, .int .u64 a0_1, .string a0_2, .slice A0_3 l0_3.length c0_3]) (t := 25) ?hr ?_; (case hd => rfl); (case hg => rfl); (case hr => first | (go_simp; done) | (go_simp; rfl)); intro gb1716 hg w14 hbox hb; have n0_ := Aside0.mk (below_step (by repeat (first | (with_reducible first | exact HB.out | apply below_alloc | apply pw_below_drewN | apply below_drew1) | exact HB.out)) hb); have n1_ := Aside0.mk (hbox); have n2_ := Aside0.mk ((by rw [hg]; exact (below_size (by repeat (first | (with_reducible first | exact HB.out | apply below_alloc | apply pw_below_drewN | apply below_drew1) | exact HB.out))) : w.heap.size ≤ gb1716)); have n3_ := Aside0.mk ((by rw [hg]; exact (below_size (by repeat (first | (with_reducible first | exact HB.out | apply below_alloc | apply pw_below_drewN | apply below_drew1) | exact HB.out))) : w.heap.size ≤ gb1716)); clear HB; have HB := n0_; have BK1716 := n1_; have GW1716 := n2_; have GE1716 := n3_; clear n0_ n1_ n2_ n3_; clear hb hbox hg; have hcz15_0 : w14.cell? ⟨gb1716, 0, none⟩ = some (.int .i64 a0_0) := (blk_cell BK1716.out 0).trans rfl; have hcz15_1 : w14.cell? ⟨gb1716, 1, none⟩ = some (.int .u64 a0_1) := (blk_cell BK1716.out 1).trans rfl; have hcz15_2 : w14.cell? ⟨gb1716, 2, none⟩ = some (.string a0_2) := (blk_cell BK1716.out 2).trans rfl; have hcz15_3 : w14.cell? ⟨gb1716, 3, none⟩ = some (.slice A0_3 l0_3.length c0_3) := (blk_cell BK1716.out 3).trans rfl; have hfz15_0 := blk_frozen BK1716.out 0; have hfz15_1 := blk_frozen BK1716.out 1; have hfz15_2 := blk_frozen BK1716.out 2; have hfz15_3 := blk_frozen BK1716.out 3))
    go_ret
    exact ⟨by first | rfl | (simp [errW_none, errW_some] <;> rfl) | (simp [*, errW_none, errW_some] <;> rfl), by repeat (first | (with_reducible first | exact HB.out | apply below_alloc | apply pw_below_drewN | apply below_drew1 | refine below_set ?_ GE1716.out) | exact HB.out)⟩
def amqvalue_alike.T8 : Bool × List (List Nat × List Nat) := (true, [([], []), ([0], [0]), ([], []), ([1, 2], [1, 2]), ([3], [3]), ([], []), ([5], [5]), ([], []), ([6, 7], [6, 7]), ([8], [8]), ([4, 9], [4, 9]), ([10], [10])])
def amqvalue_alike.B8 : List Nat := [0, 1, 0, 7, 15, 0, 32, 0, 224, 480, 1023, 2047]
theorem amqvalue_alike.tab8 : rtab .any (opsOf Tryd.f144 8) = amqvalue_alike.T8 := by kernel_rfl
theorem amqvalue_alike.bits8 : waitsOk amqvalue_alike.T8.2 amqvalue_alike.B8 = true := by kernel_rfl
set_option maxHeartbeats 8000000 in
set_option maxRecDepth 100000 in
theorem amqvalue_alike.calls (k : Nat) : ∀ (a0_0 : Int) (a0_1 : Int) (a0_2 : ByteArray) (A0_3 : Option Addr) (c0_3 : Nat) (l0_3 : List (Vl)) (a1_0 : Int) (a1_1 : Int) (a1_2 : ByteArray) (A1_3 : Option Addr) (c1_3 : Nat) (l1_3 : List (Vl)) (r : Bool) (w : World) (hr0_3 : Kd.C kV w A0_3 l0_3.length l0_3) (hc0_3 : l0_3.length ≤ c0_3) (hr1_3 : Kd.C kV w A1_3 l1_3.length l1_3) (hc1_3 : l1_3.length ≤ c1_3) (h : amqvalue_alike.f k a0_0 a0_1 a0_2 l0_3 a1_0 a1_1 a1_2 l1_3 = some r),
    Calls Tryd.prog 144 #[.agg #[.int .i64 a0_0, .int .u64 a0_1, .string a0_2, .slice A0_3 l0_3.length c0_3], .agg #[.int .i64 a1_0, .int .u64 a1_1, .string a1_2, .slice A1_3 l1_3.length c1_3]] w fun e w' => e = .returned (.bool r) ∧ Below w.heap.size w w' := by
  induction k using Nat.strongRecOn with
  | _ k ih =>
  intro a0_0 a0_1 a0_2 A0_3 c0_3 l0_3 a1_0 a1_1 a1_2 A1_3 c1_3 l1_3 r w hr0_3 hc0_3 hr1_3 hc1_3 h
  cases k with
  | zero => exact absurd h (by simp [amqvalue_alike.f])
  | succ k =>
  simp only [amqvalue_alike.f] at h
  have hu25 := Tryd.underlying25
  have HR0_3 := Aside0.mk hr0_3
  have HC0_3 := Aside0.mk hc0_3
  clear hr0_3 hc0_3
  have HR1_3 := Aside0.mk hr1_3
  have HC1_3 := Aside0.mk hc1_3
  clear hr1_3 hc1_3
  have HB := Aside0.mk (Below.refl w.heap.size w)
  have H : (if a0_0 = a1_0 then (if a0_2.toList = a1_2.toList then (amqvalue_alike.j0 k ((l0_3.length : Int) != (l1_3.length : Int)) a0_0 a0_1 a0_2 l0_3 a1_0 a1_1 a1_2 l1_3) else (amqvalue_alike.j0 k true a0_0 a0_1 a0_2 l0_3 a1_0 a1_1 a1_2 l1_3)) else (amqvalue_alike.j0 k true a0_0 a0_1 a0_2 l0_3 a1_0 a1_1 a1_2 l1_3)) = some r := h
  clear h
  have HC3 := Aside0.mk H
  clear H
  go_enter Tryd.func144, Tryd.ntmps144
  go_upto_region 1 with (first | ((with_reducible refine gate_dst (N := 2) rfl ?_); (try (refine gate_guard (by rfl) ?_; dsimp only)); refine box_event ?hg (N := 2) ?hd (cs := #[.int .i64 a0_0, .int .u64 a0_1, .string a0_2, .slice A0_3 l0_3.length c0_3]) (t := 25) ?hr ?_; (case hd => rfl); (case hg => rfl); (case hr => first | (go_simp; done) | (go_simp; rfl)); intro gb1717 hg w4 hbox hb; have n0_ := Aside0.mk (below_step (by repeat (first | (with_reducible first | exact HB.out | apply below_alloc | apply pw_below_drewN | apply below_drew1) | exact HB.out)) hb); have n1_ := Aside0.mk (hbox); have n2_ := Aside0.mk ((by rw [hg]; exact (below_size (by repeat (first | (with_reducible first | exact HB.out | apply below_alloc | apply pw_below_drewN | apply below_drew1) | exact HB.out))) : w.heap.size ≤ gb1717)); have n3_ := Aside0.mk ((by rw [hg]; exact (below_size (by repeat (first | (with_reducible first | exact HB.out | apply below_alloc | apply pw_below_drewN | apply below_drew1) | exact HB.out))) : w.heap.size ≤ gb1717)); clear HB; have HB := n0_; have BK1717 := n1_; have GW1717 := n2_; have GE1717 := n3_; clear n0_ n1_ n2_ n3_; clear hb hbox hg) | ((with_reducible refine gate_dst (N := 3) rfl ?_); (try (refine gate_guard (by rfl) ?_; dsimp only)); refine box_event ?hg (N := 3) ?hd (cs := #[.int .i64 a1_0, .int .u64 a1_1, .string a1_2, .slice A1_3 l1_3.length c1_3]) (t := 25) ?hr ?_; (case hd => rfl); (case hg => rfl); (case hr => first | (go_simp; done) | (go_simp; rfl)); intro gb1718 hg w5 hbox hb; have n0_ := Aside0.mk (blk_below (g := gb1717) (o := .cells #[.int .i64 a0_0, .int .u64 a0_1, .string a0_2, .slice A0_3 l0_3.length c0_3] 25 (0, 0)) (by (with_reducible repeat (first | refine blk_drewN ?_ _ | refine blk_drew ?_ | refine blk_alloc ?_ _)); exact BK1717.out) hb); have n1_ := Aside0.mk (below_step (by repeat (first | (with_reducible first | exact HB.out | apply below_alloc | apply pw_below_drewN | apply below_drew1 | refine below_set ?_ GE1717.out) | exact HB.out)) hb); have n2_ := Aside0.mk (hbox); have n3_ := Aside0.mk ((by rw [hg]; exact (below_size (by repeat (first | (with_reducible first | exact HB.out | apply below_alloc | apply pw_below_drewN | apply below_drew1 | refine below_set ?_ GE1717.out) | exact HB.out))) : w.heap.size ≤ gb1718)); have n4_ := Aside0.mk ((by rw [hg]; exact (below_size (by repeat (first | (with_reducible first | exact HB.out | apply below_alloc | apply pw_below_drewN | apply below_drew1 | refine below_set ?_ GE1717.out) | exact HB.out))) : w.heap.size ≤ gb1718)); have n5_ := Aside0.mk ((by rw [hg]; exact Nat.ne_of_lt (blk_lt (g := gb1717) (o := .cells #[.int .i64 a0_0, .int .u64 a0_1, .string a0_2, .slice A0_3 l0_3.length c0_3] 25 (0, 0)) (by (with_reducible repeat (first | refine blk_drewN ?_ _ | refine blk_drew ?_ | refine blk_alloc ?_ _)); exact BK1717.out)) : gb1717 ≠ gb1718)); have n6_ := Aside0.mk ((by rw [hg]; exact Nat.ne_of_gt (blk_lt (g := gb1717) (o := .cells #[.int .i64 a0_0, .int .u64 a0_1, .string a0_2, .slice A0_3 l0_3.length c0_3] 25 (0, 0)) (by (with_reducible repeat (first | refine blk_drewN ?_ _ | refine blk_drew ?_ | refine blk_alloc ?_ _)); exact BK1717.out)) : gb1718 ≠ gb1717)); clear BK1717; clear HB; have BK1717 := n0_; have HB := n1_; have BK1718 := n2_; have GW1718 := n3_; have GE1718 := n4_; have NB1717_1718 := n5_; have NB1718_1717 := n6_; clear n0_ n1_ n2_ n3_ n4_ n5_ n6_; clear hb hbox hg))
  (try simp only [Act.put, List.setIfInBounds_toArray, List.set_cons_zero, List.set_cons_succ])
  go_cut [26] (fun v26 wc => ∃ (kq : Nat) (x26_2 : Bool), v26 = .bool x26_2 ∧ Aside0 (amqvalue_alike.j0 kq x26_2 a0_0 a0_1 a0_2 l0_3 a1_0 a1_1 a1_2 l1_3 = some r) ∧ Aside0 (kq ≤ k) ∧ Aside0 (wc.heap[gb1717]? = some (.cells #[.int .i64 a0_0, .int .u64 a0_1, .string a0_2, (.slice A0_3 l0_3.length c0_3)] 25 (0, 0))) ∧ Aside0 (wc.heap[gb1718]? = some (.cells #[.int .i64 a1_0, .int .u64 a1_1, .string a1_2, (.slice A1_3 l1_3.length c1_3)] 25 (0, 0))) ∧ Aside0 (Below w.heap.size w wc))
  case first =>
   have H := HC3.out
   clear HC3
   by_cases c6 : a0_0 = a1_0
   ·rw [if_pos c6] at H
    have c6b0 : (a0_0 == a1_0) = true := beq_iff_eq.mpr c6
    have c6b1 : (a0_0 != a1_0) = false := bne_eq_false_iff_eq.mpr c6
    clear c6
    (first | rw [c6b0] | (simp only [i64_w, i32_w]; rw [c6b0]) | skip)
    by_cases c7 : a0_2.toList = a1_2.toList
    ·rw [if_pos c7] at H
     have c7b0 : (a0_2.toList == a1_2.toList) = true := beq_iff_eq.mpr c7
     have c7b1 : (a0_2.toList != a1_2.toList) = false := bne_eq_false_iff_eq.mpr c7
     clear c7
     have H' := Aside0.mk H
     clear H
     have hnb8 := NB1717_1718.out
     have hnc8 := NB1718_1717.out
     have hcz9_0 : w5.cell? ⟨gb1717, 0, none⟩ = some (.int .i64 a0_0) := (blk_cell BK1717.out 0).trans rfl
     have hcz9_1 : w5.cell? ⟨gb1717, 1, none⟩ = some (.int .u64 a0_1) := (blk_cell BK1717.out 1).trans rfl
     have hcz9_2 : w5.cell? ⟨gb1717, 2, none⟩ = some (.string a0_2) := (blk_cell BK1717.out 2).trans rfl
     have hcz9_3 : w5.cell? ⟨gb1717, 3, none⟩ = some (.slice A0_3 l0_3.length c0_3) := (blk_cell BK1717.out 3).trans rfl
     have hfz9_0 := blk_frozen BK1717.out 0
     have hfz9_1 := blk_frozen BK1717.out 1
     have hfz9_2 := blk_frozen BK1717.out 2
     have hfz9_3 := blk_frozen BK1717.out 3
     have hcz10_0 : w5.cell? ⟨gb1718, 0, none⟩ = some (.int .i64 a1_0) := (blk_cell BK1718.out 0).trans rfl
     have hcz10_1 : w5.cell? ⟨gb1718, 1, none⟩ = some (.int .u64 a1_1) := (blk_cell BK1718.out 1).trans rfl
     have hcz10_2 : w5.cell? ⟨gb1718, 2, none⟩ = some (.string a1_2) := (blk_cell BK1718.out 2).trans rfl
     have hcz10_3 : w5.cell? ⟨gb1718, 3, none⟩ = some (.slice A1_3 l1_3.length c1_3) := (blk_cell BK1718.out 3).trans rfl
     have hfz10_0 := blk_frozen BK1718.out 0
     have hfz10_1 := blk_frozen BK1718.out 1
     have hfz10_2 := blk_frozen BK1718.out 2
     have hfz10_3 := blk_frozen BK1718.out 3
     go_wp2
     go_meet
     case rel => exact ⟨_, (((l0_3.length : Int) != (l1_3.length : Int))), (by first | rfl | (simp; done) | (simp [*]; done)), H', ⟨by first | omega | exact Nat.le_refl _⟩, ⟨by (with_reducible repeat (first | refine blk_drewN ?_ _ | refine blk_drew ?_ | refine blk_alloc ?_ _)); exact BK1717.out⟩, ⟨by (with_reducible repeat (first | refine blk_drewN ?_ _ | refine blk_drew ?_ | refine blk_alloc ?_ _)); exact BK1718.out⟩, ⟨by repeat (first | (with_reducible first | exact HB.out | apply below_alloc | apply pw_below_drewN | apply below_drew1 | refine below_set ?_ GE1717.out | refine below_set ?_ GE1718.out) | exact HB.out)⟩⟩
    ·rw [if_neg c7] at H
     have c7b0 : (a0_2.toList == a1_2.toList) = false := beq_eq_false_iff_ne.mpr c7
     have c7b1 : (a0_2.toList != a1_2.toList) = true := bne_iff_ne.mpr c7
     have H' := Aside0.mk H
     clear H
     have hnb11 := NB1717_1718.out
     have hnc11 := NB1718_1717.out
     have hcz12_0 : w5.cell? ⟨gb1717, 0, none⟩ = some (.int .i64 a0_0) := (blk_cell BK1717.out 0).trans rfl
     have hcz12_1 : w5.cell? ⟨gb1717, 1, none⟩ = some (.int .u64 a0_1) := (blk_cell BK1717.out 1).trans rfl
     have hcz12_2 : w5.cell? ⟨gb1717, 2, none⟩ = some (.string a0_2) := (blk_cell BK1717.out 2).trans rfl
     have hcz12_3 : w5.cell? ⟨gb1717, 3, none⟩ = some (.slice A0_3 l0_3.length c0_3) := (blk_cell BK1717.out 3).trans rfl
     have hfz12_0 := blk_frozen BK1717.out 0
     have hfz12_1 := blk_frozen BK1717.out 1
     have hfz12_2 := blk_frozen BK1717.out 2
     have hfz12_3 := blk_frozen BK1717.out 3
     have hcz13_0 : w5.cell? ⟨gb1718, 0, none⟩ = some (.int .i64 a1_0) := (blk_cell BK1718.out 0).trans rfl
     have hcz13_1 : w5.cell? ⟨gb1718, 1, none⟩ = some (.int .u64 a1_1) := (blk_cell BK1718.out 1).trans rfl
     have hcz13_2 : w5.cell? ⟨gb1718, 2, none⟩ = some (.string a1_2) := (blk_cell BK1718.out 2).trans rfl
     have hcz13_3 : w5.cell? ⟨gb1718, 3, none⟩ = some (.slice A1_3 l1_3.length c1_3) := (blk_cell BK1718.out 3).trans rfl
     have hfz13_0 := blk_frozen BK1718.out 0
     have hfz13_1 := blk_frozen BK1718.out 1
     have hfz13_2 := blk_frozen BK1718.out 2
     have hfz13_3 := blk_frozen BK1718.out 3
     go_wp2
     go_meet
     case rel => exact ⟨_, (true), (by first | rfl | (simp; done) | (simp [*]; done)), H', ⟨by first | omega | exact Nat.le_refl _⟩, ⟨by (with_reducible repeat (first | refine blk_drewN ?_ _ | refine blk_drew ?_ | refine blk_alloc ?_ _)); exact BK1717.out⟩, ⟨by (with_reducible repeat (first | refine blk_drewN ?_ _ | refine blk_drew ?_ | refine blk_alloc ?_ _)); exact BK1718.out⟩, ⟨by repeat (first | (with_reducible first | exact HB.out | apply below_alloc | apply pw_below_drewN | apply below_drew1 | refine below_set ?_ GE1717.out | refine below_set ?_ GE1718.out) | exact HB.out)⟩⟩
   ·rw [if_neg c6] at H
    have c6b0 : (a0_0 == a1_0) = false := beq_eq_false_iff_ne.mpr c6
    have c6b1 : (a0_0 != a1_0) = true := bne_iff_ne.mpr c6
    (first | rw [c6b0] | (simp only [i64_w, i32_w]; rw [c6b0]) | skip)
    have H' := Aside0.mk H
    clear H
    have hnb14 := NB1717_1718.out
    have hnc14 := NB1718_1717.out
    have hcz15_0 : w5.cell? ⟨gb1717, 0, none⟩ = some (.int .i64 a0_0) := (blk_cell BK1717.out 0).trans rfl
    have hcz15_1 : w5.cell? ⟨gb1717, 1, none⟩ = some (.int .u64 a0_1) := (blk_cell BK1717.out 1).trans rfl
    have hcz15_2 : w5.cell? ⟨gb1717, 2, none⟩ = some (.string a0_2) := (blk_cell BK1717.out 2).trans rfl
    have hcz15_3 : w5.cell? ⟨gb1717, 3, none⟩ = some (.slice A0_3 l0_3.length c0_3) := (blk_cell BK1717.out 3).trans rfl
    have hfz15_0 := blk_frozen BK1717.out 0
    have hfz15_1 := blk_frozen BK1717.out 1
    have hfz15_2 := blk_frozen BK1717.out 2
    have hfz15_3 := blk_frozen BK1717.out 3
    have hcz16_0 : w5.cell? ⟨gb1718, 0, none⟩ = some (.int .i64 a1_0) := (blk_cell BK1718.out 0).trans rfl
    have hcz16_1 : w5.cell? ⟨gb1718, 1, none⟩ = some (.int .u64 a1_1) := (blk_cell BK1718.out 1).trans rfl
    have hcz16_2 : w5.cell? ⟨gb1718, 2, none⟩ = some (.string a1_2) := (blk_cell BK1718.out 2).trans rfl
    have hcz16_3 : w5.cell? ⟨gb1718, 3, none⟩ = some (.slice A1_3 l1_3.length c1_3) := (blk_cell BK1718.out 3).trans rfl
    have hfz16_0 := blk_frozen BK1718.out 0
    have hfz16_1 := blk_frozen BK1718.out 1
    have hfz16_2 := blk_frozen BK1718.out 2
    have hfz16_3 := blk_frozen BK1718.out 3
    go_wp2
    go_meet
    case rel => exact ⟨_, (true), (by first | rfl | (simp; done) | (simp [*]; done)), H', ⟨by first | omega | exact Nat.le_refl _⟩, ⟨by (with_reducible repeat (first | refine blk_drewN ?_ _ | refine blk_drew ?_ | refine blk_alloc ?_ _)); exact BK1717.out⟩, ⟨by (with_reducible repeat (first | refine blk_drewN ?_ _ | refine blk_drew ?_ | refine blk_alloc ?_ _)); exact BK1718.out⟩, ⟨by repeat (first | (with_reducible first | exact HB.out | apply below_alloc | apply pw_below_drewN | apply below_drew1 | refine below_set ?_ GE1717.out | refine below_set ?_ GE1718.out) | exact HB.out)⟩⟩
  case rest =>
   clear HC3
   try clear c1
   try clear p2
   try clear c6
   try clear c6b0
   try clear c6b1
   try clear c7
   try clear c7b0
   try clear c7b1
   try clear c8
   try clear c11
   try clear c14
   try clear hcz10_0
   try clear hcz10_1
   try clear hcz10_2
   try clear hcz10_3
   try clear hcz12_0
   try clear hcz12_1
   try clear hcz12_2
   try clear hcz12_3
   try clear hcz13_0
   try clear hcz13_1
   try clear hcz13_2
   try clear hcz13_3
   try clear hcz15_0
   try clear hcz15_1
   try clear hcz15_2
   try clear hcz15_3
   try clear hcz16_0
   try clear hcz16_1
   try clear hcz16_2
   try clear hcz16_3
   try clear hcz9_0
   try clear hcz9_1
   try clear hcz9_2
   try clear hcz9_3
   try clear hfz10_0
   try clear hfz10_1
   try clear hfz10_2
   try clear hfz10_3
   try clear hfz12_0
   try clear hfz12_1
   try clear hfz12_2
   try clear hfz12_3
   try clear hfz13_0
   try clear hfz13_1
   try clear hfz13_2
   try clear hfz13_3
   try clear hfz15_0
   try clear hfz15_1
   try clear hfz15_2
   try clear hfz15_3
   try clear hfz16_0
   try clear hfz16_1
   try clear hfz16_2
   try clear hfz16_3
   try clear hfz9_0
   try clear hfz9_1
   try clear hfz9_2
   try clear hfz9_3
   obtain ⟨kq, x26_2, rfl, HA, HJ2, BK1717, BK1718, HB⟩ := hcut
   cases kq with
   | zero => exact absurd HA.out (by simp [amqvalue_alike.j0])
   | succ kj2 =>
    have H := HA.out
    clear HA
    simp only [amqvalue_alike.j0] at H
    by_cases c17 : x26_2 = true
    ·subst c17
     have H1 : (some false) = some r := by rw [if_pos rfl] at H; exact H
     clear H
     have H := H1
     clear H1
     obtain rfl := Option.some.inj H
     go_wp2
     go_ret
     exact ⟨by first | rfl | (simp [errW_none, errW_some] <;> rfl) | (simp [*, errW_none, errW_some] <;> rfl), by repeat (first | (with_reducible first | exact HB.out | apply below_alloc | apply pw_below_drewN | apply below_drew1 | refine below_set ?_ GE1717.out | refine below_set ?_ GE1718.out) | exact HB.out)⟩
    ·replace c17 := Bool.eq_false_iff.mpr c17
     subst c17
     have H1 : (if a0_1 = a1_1 then (amqvalue_alike.j1 kj2 false a0_0 a0_1 a0_2 l0_3 a1_0 a1_1 a1_2 l1_3) else ((amqvalue_noNumber.f a0_0 a0_1 a0_2 l0_3).bind fun t1719 => (if t1719 = true then ((amqvalue_noNumber.f a1_0 a1_1 a1_2 l1_3).bind fun t1720 => (amqvalue_alike.j1 kj2 (!t1720) a0_0 a0_1 a0_2 l0_3 a1_0 a1_1 a1_2 l1_3)) else (amqvalue_alike.j1 kj2 (!false) a0_0 a0_1 a0_2 l0_3 a1_0 a1_1 a1_2 l1_3)))) = some r := by rw [if_neg (show ¬ (false = true) by decide)] at H; exact H
     clear H
     have H := H1
     clear H1
     have HC18 := Aside0.mk H
     clear H
     go_upto_region 3 with (fail)
     go_cut [40] (fun v40 wc => ∃ (kq : Nat) (x40_17 : Bool), v40 = .bool x40_17 ∧ Aside0 (amqvalue_alike.j1 kq x40_17 a0_0 a0_1 a0_2 l0_3 a1_0 a1_1 a1_2 l1_3 = some r) ∧ Aside0 (kq ≤ kj2) ∧ Aside0 (wc.heap[gb1717]? = some (.cells #[.int .i64 a0_0, .int .u64 a0_1, .string a0_2, (.slice A0_3 l0_3.length c0_3)] 25 (0, 0))) ∧ Aside0 (wc.heap[gb1718]? = some (.cells #[.int .i64 a1_0, .int .u64 a1_1, .string a1_2, (.slice A1_3 l1_3.length c1_3)] 25 (0, 0))) ∧ Aside0 (Below w.heap.size w wc))
     case first =>
      have H := HC18.out
      clear HC18
      by_cases c19 : a0_1 = a1_1
      ·rw [if_pos c19] at H
       have c19b0 : (a0_1 == a1_1) = true := beq_iff_eq.mpr c19
       have c19b1 : (a0_1 != a1_1) = false := bne_eq_false_iff_eq.mpr c19
       clear c19
       (first | rw [c19b0] | (simp only [i64_w, i32_w]; rw [c19b0]) | skip)
       have H' := Aside0.mk H
       clear H
       have hnb20 := NB1717_1718.out
       have hnc20 := NB1718_1717.out
       have hcz21_0 : wc.cell? ⟨gb1717, 0, none⟩ = some (.int .i64 a0_0) := (blk_cell BK1717.out 0).trans rfl
       have hcz21_1 : wc.cell? ⟨gb1717, 1, none⟩ = some (.int .u64 a0_1) := (blk_cell BK1717.out 1).trans rfl
       have hcz21_2 : wc.cell? ⟨gb1717, 2, none⟩ = some (.string a0_2) := (blk_cell BK1717.out 2).trans rfl
       have hcz21_3 : wc.cell? ⟨gb1717, 3, none⟩ = some (.slice A0_3 l0_3.length c0_3) := (blk_cell BK1717.out 3).trans rfl
       have hfz21_0 := blk_frozen BK1717.out 0
       have hfz21_1 := blk_frozen BK1717.out 1
       have hfz21_2 := blk_frozen BK1717.out 2
       have hfz21_3 := blk_frozen BK1717.out 3
       have hcz22_0 : wc.cell? ⟨gb1718, 0, none⟩ = some (.int .i64 a1_0) := (blk_cell BK1718.out 0).trans rfl
       have hcz22_1 : wc.cell? ⟨gb1718, 1, none⟩ = some (.int .u64 a1_1) := (blk_cell BK1718.out 1).trans rfl
       have hcz22_2 : wc.cell? ⟨gb1718, 2, none⟩ = some (.string a1_2) := (blk_cell BK1718.out 2).trans rfl
       have hcz22_3 : wc.cell? ⟨gb1718, 3, none⟩ = some (.slice A1_3 l1_3.length c1_3) := (blk_cell BK1718.out 3).trans rfl
       have hfz22_0 := blk_frozen BK1718.out 0
       have hfz22_1 := blk_frozen BK1718.out 1
       have hfz22_2 := blk_frozen BK1718.out 2
       have hfz22_3 := blk_frozen BK1718.out 3
       go_wp2
       go_meet
       case rel => exact ⟨_, (false), (by first | rfl | (simp; done) | (simp [*]; done)), H', ⟨by have := HJ2.out; first | omega | exact Nat.le_refl _⟩, ⟨by (with_reducible repeat (first | refine blk_drewN ?_ _ | refine blk_drew ?_ | refine blk_alloc ?_ _)); exact BK1717.out⟩, ⟨by (with_reducible repeat (first | refine blk_drewN ?_ _ | refine blk_drew ?_ | refine blk_alloc ?_ _)); exact BK1718.out⟩, ⟨by repeat (first | (with_reducible first | exact HB.out | apply below_alloc | apply pw_below_drewN | apply below_drew1 | refine below_set ?_ GE1717.out | refine below_set ?_ GE1718.out) | exact HB.out)⟩⟩
      ·rw [if_neg c19] at H
       have c19b0 : (a0_1 == a1_1) = false := beq_eq_false_iff_ne.mpr c19
       have c19b1 : (a0_1 != a1_1) = true := bne_iff_ne.mpr c19
       (first | rw [c19b0] | (simp only [i64_w, i32_w]; rw [c19b0]) | skip)
       replace H := Option.bind_eq_some_iff.mp H
       obtain ⟨t1719, A230, H⟩ := H
       replace H : (if t1719 = true then ((amqvalue_noNumber.f a1_0 a1_1 a1_2 l1_3).bind fun t1720 => (amqvalue_alike.j1 kj2 (!t1720) a0_0 a0_1 a0_2 l0_3 a1_0 a1_1 a1_2 l1_3)) else (amqvalue_alike.j1 kj2 (!false) a0_0 a0_1 a0_2 l0_3 a1_0 a1_1 a1_2 l1_3)) = some r := H
       have A23 := Aside0.mk A230
       clear A230
       by_cases c24 : t1719 = true
       ·subst c24
        have H1 : ((amqvalue_noNumber.f a1_0 a1_1 a1_2 l1_3).bind fun t1720 => (amqvalue_alike.j1 kj2 (!t1720) a0_0 a0_1 a0_2 l0_3 a1_0 a1_1 a1_2 l1_3)) = some r := by rw [if_pos rfl] at H; exact H
        clear H
        have H := H1
        clear H1
        replace H := Option.bind_eq_some_iff.mp H
        obtain ⟨t1720, A250, H⟩ := H
        replace H : (amqvalue_alike.j1 kj2 (!t1720) a0_0 a0_1 a0_2 l0_3 a1_0 a1_1 a1_2 l1_3) = some r := H
        have A25 := Aside0.mk A250
        clear A250
        have H' := Aside0.mk H
        clear H
        have hnb26 := NB1717_1718.out
        have hnc26 := NB1718_1717.out
        have hcz27_0 : wc.cell? ⟨gb1717, 0, none⟩ = some (.int .i64 a0_0) := (blk_cell BK1717.out 0).trans rfl
        have hcz27_1 : wc.cell? ⟨gb1717, 1, none⟩ = some (.int .u64 a0_1) := (blk_cell BK1717.out 1).trans rfl
        have hcz27_2 : wc.cell? ⟨gb1717, 2, none⟩ = some (.string a0_2) := (blk_cell BK1717.out 2).trans rfl
        have hcz27_3 : wc.cell? ⟨gb1717, 3, none⟩ = some (.slice A0_3 l0_3.length c0_3) := (blk_cell BK1717.out 3).trans rfl
        have hfz27_0 := blk_frozen BK1717.out 0
        have hfz27_1 := blk_frozen BK1717.out 1
        have hfz27_2 := blk_frozen BK1717.out 2
        have hfz27_3 := blk_frozen BK1717.out 3
        have hcz28_0 : wc.cell? ⟨gb1718, 0, none⟩ = some (.int .i64 a1_0) := (blk_cell BK1718.out 0).trans rfl
        have hcz28_1 : wc.cell? ⟨gb1718, 1, none⟩ = some (.int .u64 a1_1) := (blk_cell BK1718.out 1).trans rfl
        have hcz28_2 : wc.cell? ⟨gb1718, 2, none⟩ = some (.string a1_2) := (blk_cell BK1718.out 2).trans rfl
        have hcz28_3 : wc.cell? ⟨gb1718, 3, none⟩ = some (.slice A1_3 l1_3.length c1_3) := (blk_cell BK1718.out 3).trans rfl
        have hfz28_0 := blk_frozen BK1718.out 0
        have hfz28_1 := blk_frozen BK1718.out 1
        have hfz28_2 := blk_frozen BK1718.out 2
        have hfz28_3 := blk_frozen BK1718.out 3
        go_wp2_with (first | (go_at_call 166; (with_reducible refine (amqvalue_noNumber.calls a0_0 a0_1 a0_2 _ _ l0_3 true _ ?side1 ?side2 A23.out).mono ?_); (case side1 => repeat (first | exact (Kd.C_below HR0_3.out HB.out) | (with_reducible refine Kd.C_alloc ?_ _) | (with_reducible refine Kd.C_drewN ?_ _) | (with_reducible refine Kd.C_drew ?_))); (case side2 => exact HC0_3.out); rintro e w29 ⟨rfl, hb⟩; have n0_ := Aside0.mk (blk_below (g := gb1717) (o := .cells #[.int .i64 a0_0, .int .u64 a0_1, .string a0_2, .slice A0_3 l0_3.length c0_3] 25 (0, 0)) (by (with_reducible repeat (first | refine blk_drewN ?_ _ | refine blk_drew ?_ | refine blk_alloc ?_ _)); exact BK1717.out) hb); have n1_ := Aside0.mk (blk_below (g := gb1718) (o := .cells #[.int .i64 a1_0, .int .u64 a1_1, .string a1_2, .slice A1_3 l1_3.length c1_3] 25 (0, 0)) (by (with_reducible repeat (first | refine blk_drewN ?_ _ | refine blk_drew ?_ | refine blk_alloc ?_ _)); exact BK1718.out) hb); have n2_ := Aside0.mk (below_step (by repeat (first | (with_reducible first | exact HB.out | apply below_alloc | apply pw_below_drewN | apply below_drew1 | refine below_set ?_ GE1717.out | refine below_set ?_ GE1718.out) | exact HB.out)) hb); clear BK1717; clear BK1718; clear HB; have BK1717 := n0_; have BK1718 := n1_; have HB := n2_; clear n0_ n1_ n2_; (try clear hb); (try clear hb2); (try clear hk); (try clear hi); have hcz30_0 : w29.cell? ⟨gb1718, 0, none⟩ = some (.int .i64 a1_0) := (blk_cell BK1718.out 0).trans rfl; have hcz30_1 : w29.cell? ⟨gb1718, 1, none⟩ = some (.int .u64 a1_1) := (blk_cell BK1718.out 1).trans rfl; have hcz30_2 : w29.cell? ⟨gb1718, 2, none⟩ = some (.string a1_2) := (blk_cell BK1718.out 2).trans rfl; have hcz30_3 : w29.cell? ⟨gb1718, 3, none⟩ = some (.slice A1_3 l1_3.length c1_3) := (blk_cell BK1718.out 3).trans rfl; have hfz30_0 := blk_frozen BK1718.out 0; have hfz30_1 := blk_frozen BK1718.out 1; have hfz30_2 := blk_frozen BK1718.out 2; have hfz30_3 := blk_frozen BK1718.out 3) | (go_at_call 166; (with_reducible refine (amqvalue_noNumber.calls a1_0 a1_1 a1_2 _ _ l1_3 t1720 _ ?side1 ?side2 A25.out).mono ?_); (case side1 => repeat (first | exact (Kd.C_below HR1_3.out HB.out) | (with_reducible refine Kd.C_alloc ?_ _) | (with_reducible refine Kd.C_drewN ?_ _) | (with_reducible refine Kd.C_drew ?_))); (case side2 => exact HC1_3.out); rintro e w31 ⟨rfl, hb⟩; have n0_ := Aside0.mk (blk_below (g := gb1717) (o := .cells #[.int .i64 a0_0, .int .u64 a0_1, .string a0_2, .slice A0_3 l0_3.length c0_3] 25 (0, 0)) (by (with_reducible repeat (first | refine blk_drewN ?_ _ | refine blk_drew ?_ | refine blk_alloc ?_ _)); exact BK1717.out) hb); have n1_ := Aside0.mk (blk_below (g := gb1718) (o := .cells #[.int .i64 a1_0, .int .u64 a1_1, .string a1_2, .slice A1_3 l1_3.length c1_3] 25 (0, 0)) (by (with_reducible repeat (first | refine blk_drewN ?_ _ | refine blk_drew ?_ | refine blk_alloc ?_ _)); exact BK1718.out) hb); have n2_ := Aside0.mk (below_step (by repeat (first | (with_reducible first | exact HB.out | apply below_alloc | apply pw_below_drewN | apply below_drew1 | refine below_set ?_ GE1717.out | refine below_set ?_ GE1718.out) | exact HB.out)) hb); clear BK1717; clear BK1718; clear HB; have BK1717 := n0_; have BK1718 := n1_; have HB := n2_; clear n0_ n1_ n2_; (try clear hb); (try clear hb2); (try clear hk); (try clear hi)))
        go_meet
        case rel => exact ⟨_, (!t1720), (by first | rfl | (simp; done) | (simp [*]; done)), H', ⟨by have := HJ2.out; first | omega | exact Nat.le_refl _⟩, ⟨by (with_reducible repeat (first | refine blk_drewN ?_ _ | refine blk_drew ?_ | refine blk_alloc ?_ _)); exact BK1717.out⟩, ⟨by (with_reducible repeat (first | refine blk_drewN ?_ _ | refine blk_drew ?_ | refine blk_alloc ?_ _)); exact BK1718.out⟩, ⟨by repeat (first | (with_reducible first | exact HB.out | apply below_alloc | apply pw_below_drewN | apply below_drew1 | refine below_set ?_ GE1717.out | refine below_set ?_ GE1718.out) | exact HB.out)⟩⟩
       ·replace c24 := Bool.eq_false_iff.mpr c24
        subst c24
        have H1 : (amqvalue_alike.j1 kj2 (!false) a0_0 a0_1 a0_2 l0_3 a1_0 a1_1 a1_2 l1_3) = some r := by rw [if_neg (show ¬ (false = true) by decide)] at H; exact H
        clear H
        have H := H1
        clear H1
        have H' := Aside0.mk H
        clear H
        have hnb32 := NB1717_1718.out
        have hnc32 := NB1718_1717.out
        have hcz33_0 : wc.cell? ⟨gb1717, 0, none⟩ = some (.int .i64 a0_0) := (blk_cell BK1717.out 0).trans rfl
        have hcz33_1 : wc.cell? ⟨gb1717, 1, none⟩ = some (.int .u64 a0_1) := (blk_cell BK1717.out 1).trans rfl
        have hcz33_2 : wc.cell? ⟨gb1717, 2, none⟩ = some (.string a0_2) := (blk_cell BK1717.out 2).trans rfl
        have hcz33_3 : wc.cell? ⟨gb1717, 3, none⟩ = some (.slice A0_3 l0_3.length c0_3) := (blk_cell BK1717.out 3).trans rfl
        have hfz33_0 := blk_frozen BK1717.out 0
        have hfz33_1 := blk_frozen BK1717.out 1
        have hfz33_2 := blk_frozen BK1717.out 2
        have hfz33_3 := blk_frozen BK1717.out 3
        have hcz34_0 : wc.cell? ⟨gb1718, 0, none⟩ = some (.int .i64 a1_0) := (blk_cell BK1718.out 0).trans rfl
        have hcz34_1 : wc.cell? ⟨gb1718, 1, none⟩ = some (.int .u64 a1_1) := (blk_cell BK1718.out 1).trans rfl
        have hcz34_2 : wc.cell? ⟨gb1718, 2, none⟩ = some (.string a1_2) := (blk_cell BK1718.out 2).trans rfl
        have hcz34_3 : wc.cell? ⟨gb1718, 3, none⟩ = some (.slice A1_3 l1_3.length c1_3) := (blk_cell BK1718.out 3).trans rfl
        have hfz34_0 := blk_frozen BK1718.out 0
        have hfz34_1 := blk_frozen BK1718.out 1
        have hfz34_2 := blk_frozen BK1718.out 2
        have hfz34_3 := blk_frozen BK1718.out 3
        go_wp2_with (first | (go_at_call 166; (with_reducible refine (amqvalue_noNumber.calls a0_0 a0_1 a0_2 _ _ l0_3 false _ ?side1 ?side2 A23.out).mono ?_); (case side1 => repeat (first | exact (Kd.C_below HR0_3.out HB.out) | (with_reducible refine Kd.C_alloc ?_ _) | (with_reducible refine Kd.C_drewN ?_ _) | (with_reducible refine Kd.C_drew ?_))); (case side2 => exact HC0_3.out); rintro e w35 ⟨rfl, hb⟩; have n0_ := Aside0.mk (blk_below (g := gb1717) (o := .cells #[.int .i64 a0_0, .int .u64 a0_1, .string a0_2, .slice A0_3 l0_3.length c0_3] 25 (0, 0)) (by (with_reducible repeat (first | refine blk_drewN ?_ _ | refine blk_drew ?_ | refine blk_alloc ?_ _)); exact BK1717.out) hb); have n1_ := Aside0.mk (blk_below (g := gb1718) (o := .cells #[.int .i64 a1_0, .int .u64 a1_1, .string a1_2, .slice A1_3 l1_3.length c1_3] 25 (0, 0)) (by (with_reducible repeat (first | refine blk_drewN ?_ _ | refine blk_drew ?_ | refine blk_alloc ?_ _)); exact BK1718.out) hb); have n2_ := Aside0.mk (below_step (by repeat (first | (with_reducible first | exact HB.out | apply below_alloc | apply pw_below_drewN | apply below_drew1 | refine below_set ?_ GE1717.out | refine below_set ?_ GE1718.out) | exact HB.out)) hb); clear BK1717; clear BK1718; clear HB; have BK1717 := n0_; have BK1718 := n1_; have HB := n2_; clear n0_ n1_ n2_; (try clear hb); (try clear hb2); (try clear hk); (try clear hi)))
        go_meet
        case rel => exact ⟨_, (!false), (by first | rfl | (simp; done) | (simp [*]; done)), H', ⟨by have := HJ2.out; first | omega | exact Nat.le_refl _⟩, ⟨by (with_reducible repeat (first | refine blk_drewN ?_ _ | refine blk_drew ?_ | refine blk_alloc ?_ _)); exact BK1717.out⟩, ⟨by (with_reducible repeat (first | refine blk_drewN ?_ _ | refine blk_drew ?_ | refine blk_alloc ?_ _)); exact BK1718.out⟩, ⟨by repeat (first | (with_reducible first | exact HB.out | apply below_alloc | apply pw_below_drewN | apply below_drew1 | refine below_set ?_ GE1717.out | refine below_set ?_ GE1718.out) | exact HB.out)⟩⟩
     case rest =>
      clear HC18
      try clear c1
      try clear c2
      try clear p2
      try clear c3
      try clear c6
      try clear c6b0
      try clear c6b1
      try clear c7
      try clear c7b0
      try clear c7b1
      try clear c8
      try clear c11
      try clear c14
      try clear c17
      try clear c19
      try clear c19b0
      try clear c19b1
      try clear c20
      try clear c24
      try clear c26
      try clear c32
      try clear hcz10_0
      try clear hcz10_1
      try clear hcz10_2
      try clear hcz10_3
      try clear hcz12_0
      try clear hcz12_1
      try clear hcz12_2
      try clear hcz12_3
      try clear hcz13_0
      try clear hcz13_1
      try clear hcz13_2
      try clear hcz13_3
      try clear hcz15_0
      try clear hcz15_1
      try clear hcz15_2
      try clear hcz15_3
      try clear hcz16_0
      try clear hcz16_1
      try clear hcz16_2
      try clear hcz16_3
      try clear hcz21_0
      try clear hcz21_1
      try clear hcz21_2
      try clear hcz21_3
      try clear hcz22_0
      try clear hcz22_1
      try clear hcz22_2
      try clear hcz22_3
      try clear hcz27_0
      try clear hcz27_1
      try clear hcz27_2
      try clear hcz27_3
      try clear hcz28_0
      try clear hcz28_1
      try clear hcz28_2
      try clear hcz28_3
      try clear hcz30_0
      try clear hcz30_1
      try clear hcz30_2
      try clear hcz30_3
      try clear hcz33_0
      try clear hcz33_1
      try clear hcz33_2
      try clear hcz33_3
      try clear hcz34_0
      try clear hcz34_1
      try clear hcz34_2
      try clear hcz34_3
      try clear hcz9_0
      try clear hcz9_1
      try clear hcz9_2
      try clear hcz9_3
      try clear hfz10_0
      try clear hfz10_1
      try clear hfz10_2
      try clear hfz10_3
      try clear hfz12_0
      try clear hfz12_1
      try clear hfz12_2
      try clear hfz12_3
      try clear hfz13_0
      try clear hfz13_1
      try clear hfz13_2
      try clear hfz13_3
      try clear hfz15_0
      try clear hfz15_1
      try clear hfz15_2
      try clear hfz15_3
      try clear hfz16_0
      try clear hfz16_1
      try clear hfz16_2
      try clear hfz16_3
      try clear hfz21_0
      try clear hfz21_1
      try clear hfz21_2
      try clear hfz21_3
      try clear hfz22_0
      try clear hfz22_1
      try clear hfz22_2
      try clear hfz22_3
      try clear hfz27_0
      try clear hfz27_1
      try clear hfz27_2
      try clear hfz27_3
      try clear hfz28_0
      try clear hfz28_1
      try clear hfz28_2
      try clear hfz28_3
      try clear hfz30_0
      try clear hfz30_1
      try clear hfz30_2
      try clear hfz30_3
      try clear hfz33_0
      try clear hfz33_1
      try clear hfz33_2
      try clear hfz33_3
      try clear hfz34_0
      try clear hfz34_1
      try clear hfz34_2
      try clear hfz34_3
      try clear hfz9_0
      try clear hfz9_1
      try clear hfz9_2
      try clear hfz9_3
      try clear p2
      obtain ⟨kq, x40_17, rfl, HA, HJ17, BK1717, BK1718, HB⟩ := hcut
      cases kq with
      | zero => exact absurd HA.out (by simp [amqvalue_alike.j1])
      | succ kj17 =>
       have H := HA.out
       clear HA
       simp only [amqvalue_alike.j1] at H
       by_cases c36 : x40_17 = true
       ·subst c36
        have H1 : (some false) = some r := by rw [if_pos rfl] at H; exact H
        clear H
        have H := H1
        clear H1
        obtain rfl := Option.some.inj H
        go_wp2
        go_ret
        exact ⟨by first | rfl | (simp [errW_none, errW_some] <;> rfl) | (simp [*, errW_none, errW_some] <;> rfl), by repeat (first | (with_reducible first | exact HB.out | apply below_alloc | apply pw_below_drewN | apply below_drew1 | refine below_set ?_ GE1717.out | refine below_set ?_ GE1718.out) | exact HB.out)⟩
       ·replace c36 := Bool.eq_false_iff.mpr c36
        subst c36
        have H1 : (amqvalue_alike.l0 kj17 (l0_3.length : Int) 0 a0_0 a0_1 a0_2 l0_3 a1_0 a1_1 a1_2 l1_3) = some r := by rw [if_neg (show ¬ (false = true) by decide)] at H; exact H
        clear H
        have H := H1
        clear H1
        have H' := Aside0.mk H
        clear H
        have hnb37 := NB1717_1718.out
        have hnc37 := NB1718_1717.out
        have hcz38_0 : wc.cell? ⟨gb1717, 0, none⟩ = some (.int .i64 a0_0) := (blk_cell BK1717.out 0).trans rfl
        have hcz38_1 : wc.cell? ⟨gb1717, 1, none⟩ = some (.int .u64 a0_1) := (blk_cell BK1717.out 1).trans rfl
        have hcz38_2 : wc.cell? ⟨gb1717, 2, none⟩ = some (.string a0_2) := (blk_cell BK1717.out 2).trans rfl
        have hcz38_3 : wc.cell? ⟨gb1717, 3, none⟩ = some (.slice A0_3 l0_3.length c0_3) := (blk_cell BK1717.out 3).trans rfl
        have hfz38_0 := blk_frozen BK1717.out 0
        have hfz38_1 := blk_frozen BK1717.out 1
        have hfz38_2 := blk_frozen BK1717.out 2
        have hfz38_3 := blk_frozen BK1717.out 3
        go_wp2
        go_loopg [44] kj17 (fun kq v44 w' => ∃ (x44_3 : Int), v44 = .int .i64 x44_3 ∧ Aside0 (amqvalue_alike.l0 kq (l0_3.length : Int) x44_3 a0_0 a0_1 a0_2 l0_3 a1_0 a1_1 a1_2 l1_3 = some r) ∧ Aside0 (kq ≤ kj17) ∧ Aside0 (w'.heap[gb1717]? = some (.cells #[.int .i64 a0_0, .int .u64 a0_1, .string a0_2, (.slice A0_3 l0_3.length c0_3)] 25 (0, 0))) ∧ Aside0 (w'.heap[gb1718]? = some (.cells #[.int .i64 a1_0, .int .u64 a1_1, .string a1_2, (.slice A1_3 l1_3.length c1_3)] 25 (0, 0))) ∧ Aside0 (Below w.heap.size w w'))
        case atStart => exact ⟨(0), (by first | rfl | (simp; done) | (simp [*]; done)), H', ⟨Nat.le_refl _⟩, ⟨by (with_reducible repeat (first | refine blk_drewN ?_ _ | refine blk_drew ?_ | refine blk_alloc ?_ _)); exact BK1717.out⟩, ⟨by (with_reducible repeat (first | refine blk_drewN ?_ _ | refine blk_drew ?_ | refine blk_alloc ?_ _)); exact BK1718.out⟩, ⟨by repeat (first | (with_reducible first | exact HB.out | apply below_alloc | apply pw_below_drewN | apply below_drew1 | refine below_set ?_ GE1717.out | refine below_set ?_ GE1718.out) | exact HB.out)⟩⟩
        case round =>
         clear H'
         try clear c1
         try clear c2
         try clear p2
         try clear c3
         try clear c6
         try clear c6b0
         try clear c6b1
         try clear c7
         try clear c7b0
         try clear c7b1
         try clear c8
         try clear c11
         try clear c14
         try clear c17
         try clear c19
         try clear c19b0
         try clear c19b1
         try clear c20
         try clear c24
         try clear c26
         try clear c32
         try clear c36
         try clear c37
         try clear hcz10_0
         try clear hcz10_1
         try clear hcz10_2
         try clear hcz10_3
         try clear hcz12_0
         try clear hcz12_1
         try clear hcz12_2
         try clear hcz12_3
         try clear hcz13_0
         try clear hcz13_1
         try clear hcz13_2
         try clear hcz13_3
         try clear hcz15_0
         try clear hcz15_1
         try clear hcz15_2
         try clear hcz15_3
         try clear hcz16_0
         try clear hcz16_1
         try clear hcz16_2
         try clear hcz16_3
         try clear hcz21_0
         try clear hcz21_1
         try clear hcz21_2
         try clear hcz21_3
         try clear hcz22_0
         try clear hcz22_1
         try clear hcz22_2
         try clear hcz22_3
         try clear hcz27_0
         try clear hcz27_1
         try clear hcz27_2
         try clear hcz27_3
         try clear hcz28_0
         try clear hcz28_1
         try clear hcz28_2
         try clear hcz28_3
         try clear hcz30_0
         try clear hcz30_1
         try clear hcz30_2
         try clear hcz30_3
         try clear hcz33_0
         try clear hcz33_1
         try clear hcz33_2
         try clear hcz33_3
         try clear hcz34_0
         try clear hcz34_1
         try clear hcz34_2
         try clear hcz34_3
         try clear hcz38_0
         try clear hcz38_1
         try clear hcz38_2
         try clear hcz38_3
         try clear hcz9_0
         try clear hcz9_1
         try clear hcz9_2
         try clear hcz9_3
         try clear hfz10_0
         try clear hfz10_1
         try clear hfz10_2
         try clear hfz10_3
         try clear hfz12_0
         try clear hfz12_1
         try clear hfz12_2
         try clear hfz12_3
         try clear hfz13_0
         try clear hfz13_1
         try clear hfz13_2
         try clear hfz13_3
         try clear hfz15_0
         try clear hfz15_1
         try clear hfz15_2
         try clear hfz15_3
         try clear hfz16_0
         try clear hfz16_1
         try clear hfz16_2
         try clear hfz16_3
         try clear hfz21_0
         try clear hfz21_1
         try clear hfz21_2
         try clear hfz21_3
         try clear hfz22_0
         try clear hfz22_1
         try clear hfz22_2
         try clear hfz22_3
         try clear hfz27_0
         try clear hfz27_1
         try clear hfz27_2
         try clear hfz27_3
         try clear hfz28_0
         try clear hfz28_1
         try clear hfz28_2
         try clear hfz28_3
         try clear hfz30_0
         try clear hfz30_1
         try clear hfz30_2
         try clear hfz30_3
         try clear hfz33_0
         try clear hfz33_1
         try clear hfz33_2
         try clear hfz33_3
         try clear hfz34_0
         try clear hfz34_1
         try clear hfz34_2
         try clear hfz34_3
         try clear hfz38_0
         try clear hfz38_1
         try clear hfz38_2
         try clear hfz38_3
         try clear hfz9_0
         try clear hfz9_1
         try clear hfz9_2
         try clear hfz9_3
         try clear p2
         obtain ⟨x44_3, rfl, HA, HK3, BK1717, BK1718, HB⟩ := hrel
         cases gk with
         | zero => exact absurd HA.out (by simp [amqvalue_alike.l0])
         | succ k3 =>
          have H := HA.out
          clear HA
          simp only [amqvalue_alike.l0] at H
          by_cases c39 : x44_3 < (l0_3.length : Int)
          ·rw [if_pos c39] at H
           have c39b0 : decide (x44_3 < (l0_3.length : Int)) = true := decide_eq_true c39
           clear c39
           by_cases c40 : 0 ≤ x44_3
           ·rw [if_pos c40] at H
            have c40b0 : decide (0 ≤ x44_3) = true := decide_eq_true c40
            clear c40
            by_cases c41 : x44_3 < (l0_3.length : Int)
            ·rw [if_pos c41] at H
             have c41b0 : decide (x44_3 < (l0_3.length : Int)) = true := decide_eq_true c41
             clear c41
             by_cases c42 : x44_3 < (l1_3.length : Int)
             ·rw [if_pos c42] at H
              have c42b0 : decide (x44_3 < (l1_3.length : Int)) = true := decide_eq_true c42
              clear c42
              replace H := Option.bind_eq_some_iff.mp H
              obtain ⟨t1723, A430, H⟩ := H
              replace H : (if t1723 = true then (amqvalue_alike.l0 k3 (l0_3.length : Int) (wrap64 (x44_3 + 1)) a0_0 a0_1 a0_2 l0_3 a1_0 a1_1 a1_2 l1_3) else (some false)) = some r := H
              have A43 := Aside0.mk A430
              clear A430
              by_cases c44 : t1723 = true
              ·subst c44
               have H1 : (amqvalue_alike.l0 k3 (l0_3.length : Int) (wrap64 (x44_3 + 1)) a0_0 a0_1 a0_2 l0_3 a1_0 a1_1 a1_2 l1_3) = some r := by rw [if_pos rfl] at H; exact H
               clear H
               have H := H1
               clear H1
               have H' := Aside0.mk H
               clear H
               try go_wp2
               have n0_ := Aside0.mk (blk_drew BK1717.out)
               have n1_ := Aside0.mk (blk_drew BK1718.out)
               have n2_ := Aside0.mk (below_drew1 HB.out)
               clear BK1717
               clear BK1718
               clear HB
               have BK1717 := n0_
               have BK1718 := n1_
               have HB := n2_
               clear n0_ n1_ n2_
               have p1721 : 0 ≤ (x44_3 : Int) := of_decide_eq_true (by first | (with_reducible assumption) | assumption)
               have q1721 : x44_3 < (l0_3.length : Int) := of_decide_eq_true (by first | (with_reducible assumption) | assumption)
               obtain ⟨ad1721, A1721_3, c1721_3, e1721, hx1721_0, hx1721_1, hx1721_2, hx1721_3, hl1721_3, hi1721_3⟩ := atV HR0_3.out x44_3 p1721 q1721
               have hw1721_3 := hx1721_3
               have hw1721_2 := hx1721_2
               have hw1721_1 := hx1721_1
               have hw1721_0 := hx1721_0
               cases e1721
               replace hx1721_0 := (HB.out.cell (World.block_lt_of_cell? w _ hx1721_0)).trans hx1721_0
               replace hx1721_1 := (HB.out.cell (World.block_lt_of_cell? w _ hx1721_1)).trans hx1721_1
               replace hx1721_2 := (HB.out.cell (World.block_lt_of_cell? w _ hx1721_2)).trans hx1721_2
               replace hx1721_3 := (HB.out.cell (World.block_lt_of_cell? w _ hx1721_3)).trans hx1721_3
               have HR1721_3 := Aside0.mk hi1721_3
               have HC1721_3 := Aside0.mk hl1721_3
               clear hi1721_3 hl1721_3
               replace p1721 := eq_true p1721
               replace q1721 := eq_true q1721
               have p1722 : 0 ≤ (x44_3 : Int) := of_decide_eq_true (by first | (with_reducible assumption) | assumption)
               have q1722 : x44_3 < (l1_3.length : Int) := of_decide_eq_true (by first | (with_reducible assumption) | assumption)
               obtain ⟨ad1722, A1722_3, c1722_3, e1722, hx1722_0, hx1722_1, hx1722_2, hx1722_3, hl1722_3, hi1722_3⟩ := atV HR1_3.out x44_3 p1722 q1722
               have hw1722_3 := hx1722_3
               have hw1722_2 := hx1722_2
               have hw1722_1 := hx1722_1
               have hw1722_0 := hx1722_0
               cases e1722
               replace hx1722_0 := (HB.out.cell (World.block_lt_of_cell? w _ hx1722_0)).trans hx1722_0
               replace hx1722_1 := (HB.out.cell (World.block_lt_of_cell? w _ hx1722_1)).trans hx1722_1
               replace hx1722_2 := (HB.out.cell (World.block_lt_of_cell? w _ hx1722_2)).trans hx1722_2
               replace hx1722_3 := (HB.out.cell (World.block_lt_of_cell? w _ hx1722_3)).trans hx1722_3
               have HR1722_3 := Aside0.mk hi1722_3
               have HC1722_3 := Aside0.mk hl1722_3
               clear hi1722_3 hl1722_3
               replace p1722 := eq_true p1722
               replace q1722 := eq_true q1722
               refine start_ (n := 12) (S := fun w' => w'.cell? ⟨gb1717, 0, none⟩ = some (.int .i64 a0_0) ∧ w'.cell? ⟨gb1717, 1, none⟩ = some (.int .u64 a0_1) ∧ w'.cell? ⟨gb1717, 2, none⟩ = some (.string a0_2) ∧ w'.cell? ⟨gb1717, 3, none⟩ = some (.slice (some ad1721) l0_3.length c0_3) ∧ w'.cell? ⟨gb1718, 0, none⟩ = some (.int .i64 a1_0) ∧ w'.cell? ⟨gb1718, 1, none⟩ = some (.int .u64 a1_1) ∧ w'.cell? ⟨gb1718, 2, none⟩ = some (.string a1_2) ∧ w'.cell? ⟨gb1718, 3, none⟩ = some (.slice (some ad1722) l1_3.length c1_3) ∧ w'.cell? (ad1721.add ((x44_3).toNat * 4)) = some (.int .i64 ((rdV l0_3 x44_3).kind)) ∧ w'.cell? ⟨(ad1721.add ((x44_3).toNat * 4)).block, (ad1721.add ((x44_3).toNat * 4)).off + 1, none⟩ = some (.int .u64 ((rdV l0_3 x44_3).n)) ∧ w'.cell? ⟨(ad1721.add ((x44_3).toNat * 4)).block, (ad1721.add ((x44_3).toNat * 4)).off + 2, none⟩ = some (.string ((rdV l0_3 x44_3).text)) ∧ w'.cell? ⟨(ad1721.add ((x44_3).toNat * 4)).block, (ad1721.add ((x44_3).toNat * 4)).off + 3, none⟩ = some (.slice A1721_3 ((rdV l0_3 x44_3).items).length c1721_3) ∧ w'.cell? (ad1722.add ((x44_3).toNat * 4)) = some (.int .i64 ((rdV l1_3 x44_3).kind)) ∧ w'.cell? ⟨(ad1722.add ((x44_3).toNat * 4)).block, (ad1722.add ((x44_3).toNat * 4)).off + 1, none⟩ = some (.int .u64 ((rdV l1_3 x44_3).n)) ∧ w'.cell? ⟨(ad1722.add ((x44_3).toNat * 4)).block, (ad1722.add ((x44_3).toNat * 4)).off + 2, none⟩ = some (.string ((rdV l1_3 x44_3).text)) ∧ w'.cell? ⟨(ad1722.add ((x44_3).toNat * 4)).block, (ad1722.add ((x44_3).toNat * 4)).off + 3, none⟩ = some (.slice A1722_3 ((rdV l1_3 x44_3).items).length c1722_3)) (ds := []) #[false, false, false, false, false, false, false, false, false, false, false, false] (by kernel_rfl) rfl rfl ⟨(blk_cell BK1717.out 0).trans rfl, (blk_cell BK1717.out 1).trans rfl, (blk_cell BK1717.out 2).trans rfl, (blk_cell BK1717.out 3).trans rfl, (blk_cell BK1718.out 0).trans rfl, (blk_cell BK1718.out 1).trans rfl, (blk_cell BK1718.out 2).trans rfl, (blk_cell BK1718.out 3).trans rfl, ((HB.out.cell (World.block_lt_of_cell? w _ hw1721_0)).trans hw1721_0), ((HB.out.cell (World.block_lt_of_cell? w _ hw1721_1)).trans hw1721_1), ((HB.out.cell (World.block_lt_of_cell? w _ hw1721_2)).trans hw1721_2), ((HB.out.cell (World.block_lt_of_cell? w _ hw1721_3)).trans hw1721_3), ((HB.out.cell (World.block_lt_of_cell? w _ hw1722_0)).trans hw1722_0), ((HB.out.cell (World.block_lt_of_cell? w _ hw1722_1)).trans hw1722_1), ((HB.out.cell (World.block_lt_of_cell? w _ hw1722_2)).trans hw1722_2), ((HB.out.cell (World.block_lt_of_cell? w _ hw1722_3)).trans hw1722_3)⟩ (fun hHeld => ?_); refine with_tabW amqvalue_alike.tab8 amqvalue_alike.bits8 (fun HT_ HW_ => ?_)
               generalize wr.drew = w45 at BK1717 BK1718 HB HR1721_3 HR1722_3 hx1721_0 hx1721_1 hx1721_2 hx1721_3 hx1722_0 hx1722_1 hx1722_2 hx1722_3 hHeld ⊢
               refine pure_ (i := 0) (N := some 47) (v := ?_) (a' := ?_) #[true, false, false, false, false, false, false, false, false, false, false, false] rfl rfl (any_of HT_.out (by kernel_rfl)) (fun _ _ _ h => h) (Or.inl ⟨by rfl, ?_⟩) ?_ ?_
               rotate_left
               ·intro w'
                go_simp
                with_reducible rfl
               rotate_left
               ·simp only [Act.put, List.setIfInBounds_toArray, List.set_cons_zero, List.set_cons_succ, i64_w, i32_w]
                rfl
               refine pure_ (i := 2) (N := some 49) (v := ?_) (a' := ?_) #[true, false, true, false, false, false, false, false, false, false, false, false] rfl rfl (any_of HT_.out (by kernel_rfl)) (fun _ _ _ h => h) (Or.inl ⟨by rfl, ?_⟩) ?_ ?_
               rotate_left
               ·intro w'
                go_simp
                with_reducible rfl
               rotate_left
               ·simp only [Act.put, List.setIfInBounds_toArray, List.set_cons_zero, List.set_cons_succ, i64_w, i32_w]
                rfl
               refine pure_ (i := 5) (N := some 52) (v := ?_) (a' := ?_) #[true, false, true, false, false, true, false, false, false, false, false, false] rfl rfl (any_of HT_.out (by kernel_rfl)) (fun _ _ _ h => h) (Or.inl ⟨by rfl, ?_⟩) ?_ ?_
               rotate_left
               ·intro w'
                go_simp
                with_reducible rfl
               rotate_left
               ·simp only [Act.put, List.setIfInBounds_toArray, List.set_cons_zero, List.set_cons_succ, i64_w, i32_w]
                rfl
               refine pure_ (i := 7) (N := some 54) (v := ?_) (a' := ?_) #[true, false, true, false, false, true, false, true, false, false, false, false] rfl rfl (any_of HT_.out (by kernel_rfl)) (fun _ _ _ h => h) (Or.inl ⟨by rfl, ?_⟩) ?_ ?_
               rotate_left
               ·intro w'
                go_simp
                with_reducible rfl
               rotate_left
               ·simp only [Act.put, List.setIfInBounds_toArray, List.set_cons_zero, List.set_cons_succ, i64_w, i32_w]
                rfl
               refine take_ (i := 1) (N := some 48) (v := ?_) (a' := ?_) #[true, true, true, false, false, true, false, true, false, false, false, false] rfl rfl (take_ofW HT_.out HW_.out (by kernel_rfl)) (fun _ _ _ h => h) (Or.inl ⟨by rfl, ?_⟩) hHeld ?_ ?_
               rotate_left
               ·rintro w' ⟨s0, s1, s2, s3, s4, s5, s6, s7, s8, s9, s10, s11, s12, s13, s14, s15⟩
                go_simp
                with_reducible rfl
               rotate_left
               ·simp only [Act.put, List.setIfInBounds_toArray, List.set_cons_zero, List.set_cons_succ, i64_w, i32_w]
                rfl
               refine pure_ (i := 3) (N := some 50) (v := ?_) (a' := ?_) #[true, true, true, true, false, true, false, true, false, false, false, false] rfl rfl (any_of HT_.out (by kernel_rfl)) (fun _ _ _ h => h) (Or.inl ⟨by rfl, ?_⟩) ?_ ?_
               rotate_left
               ·intro w'
                go_simp
                with_reducible rfl
               rotate_left
               ·simp only [Act.put, List.setIfInBounds_toArray, List.set_cons_zero, List.set_cons_succ, i64_w, i32_w]
                rfl
               refine take_ (i := 4) (N := some 51) (v := ?_) (a' := ?_) #[true, true, true, true, true, true, false, true, false, false, false, false] rfl rfl (take_ofW HT_.out HW_.out (by kernel_rfl)) (fun _ _ _ h => h) (Or.inl ⟨by rfl, ?_⟩) hHeld ?_ ?_
               rotate_left
               ·rintro w' ⟨s0, s1, s2, s3, s4, s5, s6, s7, s8, s9, s10, s11, s12, s13, s14, s15⟩
                go_simp
                with_reducible rfl
               rotate_left
               ·simp only [Act.put, List.setIfInBounds_toArray, List.set_cons_zero, List.set_cons_succ, i64_w, i32_w]
                rfl
               refine take_ (i := 6) (N := some 53) (v := ?_) (a' := ?_) #[true, true, true, true, true, true, true, true, false, false, false, false] rfl rfl (take_ofW HT_.out HW_.out (by kernel_rfl)) (fun _ _ _ h => h) (Or.inl ⟨by rfl, ?_⟩) hHeld ?_ ?_
               rotate_left
               ·rintro w' ⟨s0, s1, s2, s3, s4, s5, s6, s7, s8, s9, s10, s11, s12, s13, s14, s15⟩
                go_simp
                with_reducible rfl
               rotate_left
               ·simp only [Act.put, List.setIfInBounds_toArray, List.set_cons_zero, List.set_cons_succ, i64_w, i32_w]
                rfl
               refine pure_ (i := 8) (N := some 55) (v := ?_) (a' := ?_) #[true, true, true, true, true, true, true, true, true, false, false, false] rfl rfl (any_of HT_.out (by kernel_rfl)) (fun _ _ _ h => h) (Or.inl ⟨by rfl, ?_⟩) ?_ ?_
               rotate_left
               ·intro w'
                go_simp
                with_reducible rfl
               rotate_left
               ·simp only [Act.put, List.setIfInBounds_toArray, List.set_cons_zero, List.set_cons_succ, i64_w, i32_w]
                rfl
               refine take_ (i := 9) (N := some 56) (v := ?_) (a' := ?_) #[true, true, true, true, true, true, true, true, true, true, false, false] rfl rfl (take_ofW HT_.out HW_.out (by kernel_rfl)) (fun _ _ _ h => h) (Or.inl ⟨by rfl, ?_⟩) hHeld ?_ ?_
               rotate_left
               ·rintro w' ⟨s0, s1, s2, s3, s4, s5, s6, s7, s8, s9, s10, s11, s12, s13, s14, s15⟩
                go_simp
                with_reducible rfl
               rotate_left
               ·simp only [Act.put, List.setIfInBounds_toArray, List.set_cons_zero, List.set_cons_succ, i64_w, i32_w]
                rfl
               refine one_ (i := 10) (N := some 57) #[true, true, true, true, true, true, true, true, true, true, true, false] rfl rfl (one_of HT_.out (by kernel_rfl)) (by decide) (fun K hK => ?_)
               refine goes_ Tryd.func144 (by kernel_rfl) rfl #[.agg #[.int .i64 ((rdV l0_3 x44_3).kind), .int .u64 ((rdV l0_3 x44_3).n), .string ((rdV l0_3 x44_3).text), .slice A1721_3 ((rdV l0_3 x44_3).items).length c1721_3], .agg #[.int .i64 ((rdV l1_3 x44_3).kind), .int .u64 ((rdV l1_3 x44_3).n), .string ((rdV l1_3 x44_3).text), .slice A1722_3 ((rdV l1_3 x44_3).items).length c1722_3]] (by rfl) rfl rfl (by (try simp only [List.map_toArray, List.map_cons, List.map_nil]); first | done | rfl | (simp only [List.length_drop, List.length_take]; rfl)) ?_
               with_reducible refine (ih k3 (by have := HJ2.out; have := HJ17.out; have := HK3.out; omega) ((rdV l0_3 x44_3).kind) ((rdV l0_3 x44_3).n) ((rdV l0_3 x44_3).text) _ _ ((rdV l0_3 x44_3).items) ((rdV l1_3 x44_3).kind) ((rdV l1_3 x44_3).n) ((rdV l1_3 x44_3).text) _ _ ((rdV l1_3 x44_3).items) true _ ?side1 ?side2 ?side3 ?side4 A43.out).mono ?_
               (case side1 => repeat (first | exact (Kd.C_below HR1721_3.out HB.out) | (with_reducible refine Kd.C_alloc ?_ _) | (with_reducible refine Kd.C_drewN ?_ _) | (with_reducible refine Kd.C_drew ?_)))
               (case side2 => exact HC1721_3.out)
               (case side3 => repeat (first | exact (Kd.C_below HR1722_3.out HB.out) | (with_reducible refine Kd.C_alloc ?_ _) | (with_reducible refine Kd.C_drewN ?_ _) | (with_reducible refine Kd.C_drew ?_)))
               (case side4 => exact HC1722_3.out)
               rintro e w46 ⟨rfl, hb⟩
               refine ⟨_, rfl, ?_⟩
               have n0_ := Aside0.mk (blk_below (g := gb1717) (o := .cells #[.int .i64 a0_0, .int .u64 a0_1, .string a0_2, .slice (some ad1721) l0_3.length c0_3] 25 (0, 0)) (by (with_reducible repeat (first | refine blk_drewN ?_ _ | refine blk_drew ?_ | refine blk_alloc ?_ _)); exact BK1717.out) hb)
               have n1_ := Aside0.mk (blk_below (g := gb1718) (o := .cells #[.int .i64 a1_0, .int .u64 a1_1, .string a1_2, .slice (some ad1722) l1_3.length c1_3] 25 (0, 0)) (by (with_reducible repeat (first | refine blk_drewN ?_ _ | refine blk_drew ?_ | refine blk_alloc ?_ _)); exact BK1718.out) hb)
               have n2_ := Aside0.mk (below_step (by repeat (first | (with_reducible first | exact HB.out | apply below_alloc | apply pw_below_drewN | apply below_drew1 | refine below_set ?_ GE1717.out | refine below_set ?_ GE1718.out) | exact HB.out)) hb)
               clear BK1717
               clear BK1718
               clear HB
               have BK1717 := n0_
               have BK1718 := n1_
               have HB := n2_
               clear n0_ n1_ n2_
               (try clear hb)
               (try clear hb2)
               (try clear hk)
               (try clear hi)
               refine hK.out _ _ ⟨(blk_cell BK1717.out 0).trans rfl, (blk_cell BK1717.out 1).trans rfl, (blk_cell BK1717.out 2).trans rfl, (blk_cell BK1717.out 3).trans rfl, (blk_cell BK1718.out 0).trans rfl, (blk_cell BK1718.out 1).trans rfl, (blk_cell BK1718.out 2).trans rfl, (blk_cell BK1718.out 3).trans rfl, ((HB.out.cell (World.block_lt_of_cell? w _ hw1721_0)).trans hw1721_0), ((HB.out.cell (World.block_lt_of_cell? w _ hw1721_1)).trans hw1721_1), ((HB.out.cell (World.block_lt_of_cell? w _ hw1721_2)).trans hw1721_2), ((HB.out.cell (World.block_lt_of_cell? w _ hw1721_3)).trans hw1721_3), ((HB.out.cell (World.block_lt_of_cell? w _ hw1722_0)).trans hw1722_0), ((HB.out.cell (World.block_lt_of_cell? w _ hw1722_1)).trans hw1722_1), ((HB.out.cell (World.block_lt_of_cell? w _ hw1722_2)).trans hw1722_2), ((HB.out.cell (World.block_lt_of_cell? w _ hw1722_3)).trans hw1722_3)⟩ (fun hHeld => ?_)
               clear hK K
               refine norm_ (a' := ?_) ?_ ?_
               rotate_left
               ·show Act.put _ (some 57) _ = _
                simp only [Act.put, List.setIfInBounds_toArray, List.set_cons_zero, List.set_cons_succ, i64_w, i32_w]
                rfl
               refine pure_ (i := 11) (N := some 58) (v := ?_) (a' := ?_) #[true, true, true, true, true, true, true, true, true, true, true, true] rfl rfl (any_of HT_.out (by kernel_rfl)) (fun _ _ _ h => h) (Or.inl ⟨by rfl, ?_⟩) ?_ ?_
               rotate_left
               ·intro w'
                go_simp
                with_reducible rfl
               rotate_left
               ·simp only [Act.put, List.setIfInBounds_toArray, List.set_cons_zero, List.set_cons_succ, i64_w, i32_w]
                rfl
               refine done_ (done_of HT_.out (by kernel_rfl)) ?_
               try go_wp2
               go_roundg k3
               case measure => have := HJ2.out; have := HJ17.out; have := HK3.out; omega
               case rel => exact ⟨(wrap64 (x44_3 + 1)), (by first | rfl | (simp; done) | (simp [*]; done)), H', ⟨by have := HJ2.out; have := HJ17.out; have := HK3.out; omega⟩, ⟨by (with_reducible repeat (first | refine blk_drewN ?_ _ | refine blk_drew ?_ | refine blk_alloc ?_ _)); exact BK1717.out⟩, ⟨by (with_reducible repeat (first | refine blk_drewN ?_ _ | refine blk_drew ?_ | refine blk_alloc ?_ _)); exact BK1718.out⟩, ⟨by repeat (first | (with_reducible first | exact HB.out | apply below_alloc | apply pw_below_drewN | apply below_drew1 | refine below_set ?_ GE1717.out | refine below_set ?_ GE1718.out) | exact HB.out)⟩⟩
              ·replace c44 := Bool.eq_false_iff.mpr c44
               subst c44
               have H1 : (some false) = some r := by rw [if_neg (show ¬ (false = true) by decide)] at H; exact H
               clear H
               have H := H1
               clear H1
               obtain rfl := Option.some.inj H
               try go_wp2
               have n0_ := Aside0.mk (blk_drew BK1717.out)
               have n1_ := Aside0.mk (blk_drew BK1718.out)
               have n2_ := Aside0.mk (below_drew1 HB.out)
               clear BK1717
               clear BK1718
               clear HB
               have BK1717 := n0_
               have BK1718 := n1_
               have HB := n2_
               clear n0_ n1_ n2_
               have p1721 : 0 ≤ (x44_3 : Int) := of_decide_eq_true (by first | (with_reducible assumption) | assumption)
               have q1721 : x44_3 < (l0_3.length : Int) := of_decide_eq_true (by first | (with_reducible assumption) | assumption)
               obtain ⟨ad1721, A1721_3, c1721_3, e1721, hx1721_0, hx1721_1, hx1721_2, hx1721_3, hl1721_3, hi1721_3⟩ := atV HR0_3.out x44_3 p1721 q1721
               have hw1721_3 := hx1721_3
               have hw1721_2 := hx1721_2
               have hw1721_1 := hx1721_1
               have hw1721_0 := hx1721_0
               cases e1721
               replace hx1721_0 := (HB.out.cell (World.block_lt_of_cell? w _ hx1721_0)).trans hx1721_0
               replace hx1721_1 := (HB.out.cell (World.block_lt_of_cell? w _ hx1721_1)).trans hx1721_1
               replace hx1721_2 := (HB.out.cell (World.block_lt_of_cell? w _ hx1721_2)).trans hx1721_2
               replace hx1721_3 := (HB.out.cell (World.block_lt_of_cell? w _ hx1721_3)).trans hx1721_3
               have HR1721_3 := Aside0.mk hi1721_3
               have HC1721_3 := Aside0.mk hl1721_3
               clear hi1721_3 hl1721_3
               replace p1721 := eq_true p1721
               replace q1721 := eq_true q1721
               have p1722 : 0 ≤ (x44_3 : Int) := of_decide_eq_true (by first | (with_reducible assumption) | assumption)
               have q1722 : x44_3 < (l1_3.length : Int) := of_decide_eq_true (by first | (with_reducible assumption) | assumption)
               obtain ⟨ad1722, A1722_3, c1722_3, e1722, hx1722_0, hx1722_1, hx1722_2, hx1722_3, hl1722_3, hi1722_3⟩ := atV HR1_3.out x44_3 p1722 q1722
               have hw1722_3 := hx1722_3
               have hw1722_2 := hx1722_2
               have hw1722_1 := hx1722_1
               have hw1722_0 := hx1722_0
               cases e1722
               replace hx1722_0 := (HB.out.cell (World.block_lt_of_cell? w _ hx1722_0)).trans hx1722_0
               replace hx1722_1 := (HB.out.cell (World.block_lt_of_cell? w _ hx1722_1)).trans hx1722_1
               replace hx1722_2 := (HB.out.cell (World.block_lt_of_cell? w _ hx1722_2)).trans hx1722_2
               replace hx1722_3 := (HB.out.cell (World.block_lt_of_cell? w _ hx1722_3)).trans hx1722_3
               have HR1722_3 := Aside0.mk hi1722_3
               have HC1722_3 := Aside0.mk hl1722_3
               clear hi1722_3 hl1722_3
               replace p1722 := eq_true p1722
               replace q1722 := eq_true q1722
               refine start_ (n := 12) (S := fun w' => w'.cell? ⟨gb1717, 0, none⟩ = some (.int .i64 a0_0) ∧ w'.cell? ⟨gb1717, 1, none⟩ = some (.int .u64 a0_1) ∧ w'.cell? ⟨gb1717, 2, none⟩ = some (.string a0_2) ∧ w'.cell? ⟨gb1717, 3, none⟩ = some (.slice (some ad1721) l0_3.length c0_3) ∧ w'.cell? ⟨gb1718, 0, none⟩ = some (.int .i64 a1_0) ∧ w'.cell? ⟨gb1718, 1, none⟩ = some (.int .u64 a1_1) ∧ w'.cell? ⟨gb1718, 2, none⟩ = some (.string a1_2) ∧ w'.cell? ⟨gb1718, 3, none⟩ = some (.slice (some ad1722) l1_3.length c1_3) ∧ w'.cell? (ad1721.add ((x44_3).toNat * 4)) = some (.int .i64 ((rdV l0_3 x44_3).kind)) ∧ w'.cell? ⟨(ad1721.add ((x44_3).toNat * 4)).block, (ad1721.add ((x44_3).toNat * 4)).off + 1, none⟩ = some (.int .u64 ((rdV l0_3 x44_3).n)) ∧ w'.cell? ⟨(ad1721.add ((x44_3).toNat * 4)).block, (ad1721.add ((x44_3).toNat * 4)).off + 2, none⟩ = some (.string ((rdV l0_3 x44_3).text)) ∧ w'.cell? ⟨(ad1721.add ((x44_3).toNat * 4)).block, (ad1721.add ((x44_3).toNat * 4)).off + 3, none⟩ = some (.slice A1721_3 ((rdV l0_3 x44_3).items).length c1721_3) ∧ w'.cell? (ad1722.add ((x44_3).toNat * 4)) = some (.int .i64 ((rdV l1_3 x44_3).kind)) ∧ w'.cell? ⟨(ad1722.add ((x44_3).toNat * 4)).block, (ad1722.add ((x44_3).toNat * 4)).off + 1, none⟩ = some (.int .u64 ((rdV l1_3 x44_3).n)) ∧ w'.cell? ⟨(ad1722.add ((x44_3).toNat * 4)).block, (ad1722.add ((x44_3).toNat * 4)).off + 2, none⟩ = some (.string ((rdV l1_3 x44_3).text)) ∧ w'.cell? ⟨(ad1722.add ((x44_3).toNat * 4)).block, (ad1722.add ((x44_3).toNat * 4)).off + 3, none⟩ = some (.slice A1722_3 ((rdV l1_3 x44_3).items).length c1722_3)) (ds := []) #[false, false, false, false, false, false, false, false, false, false, false, false] (by kernel_rfl) rfl rfl ⟨(blk_cell BK1717.out 0).trans rfl, (blk_cell BK1717.out 1).trans rfl, (blk_cell BK1717.out 2).trans rfl, (blk_cell BK1717.out 3).trans rfl, (blk_cell BK1718.out 0).trans rfl, (blk_cell BK1718.out 1).trans rfl, (blk_cell BK1718.out 2).trans rfl, (blk_cell BK1718.out 3).trans rfl, ((HB.out.cell (World.block_lt_of_cell? w _ hw1721_0)).trans hw1721_0), ((HB.out.cell (World.block_lt_of_cell? w _ hw1721_1)).trans hw1721_1), ((HB.out.cell (World.block_lt_of_cell? w _ hw1721_2)).trans hw1721_2), ((HB.out.cell (World.block_lt_of_cell? w _ hw1721_3)).trans hw1721_3), ((HB.out.cell (World.block_lt_of_cell? w _ hw1722_0)).trans hw1722_0), ((HB.out.cell (World.block_lt_of_cell? w _ hw1722_1)).trans hw1722_1), ((HB.out.cell (World.block_lt_of_cell? w _ hw1722_2)).trans hw1722_2), ((HB.out.cell (World.block_lt_of_cell? w _ hw1722_3)).trans hw1722_3)⟩ (fun hHeld => ?_); refine with_tabW amqvalue_alike.tab8 amqvalue_alike.bits8 (fun HT_ HW_ => ?_)
               generalize wr.drew = w47 at BK1717 BK1718 HB HR1721_3 HR1722_3 hx1721_0 hx1721_1 hx1721_2 hx1721_3 hx1722_0 hx1722_1 hx1722_2 hx1722_3 hHeld ⊢
               refine pure_ (i := 0) (N := some 47) (v := ?_) (a' := ?_) #[true, false, false, false, false, false, false, false, false, false, false, false] rfl rfl (any_of HT_.out (by kernel_rfl)) (fun _ _ _ h => h) (Or.inl ⟨by rfl, ?_⟩) ?_ ?_
               rotate_left
               ·intro w'
                go_simp
                with_reducible rfl
               rotate_left
               ·simp only [Act.put, List.setIfInBounds_toArray, List.set_cons_zero, List.set_cons_succ, i64_w, i32_w]
                rfl
               refine pure_ (i := 2) (N := some 49) (v := ?_) (a' := ?_) #[true, false, true, false, false, false, false, false, false, false, false, false] rfl rfl (any_of HT_.out (by kernel_rfl)) (fun _ _ _ h => h) (Or.inl ⟨by rfl, ?_⟩) ?_ ?_
               rotate_left
               ·intro w'
                go_simp
                with_reducible rfl
               rotate_left
               ·simp only [Act.put, List.setIfInBounds_toArray, List.set_cons_zero, List.set_cons_succ, i64_w, i32_w]
                rfl
               refine pure_ (i := 5) (N := some 52) (v := ?_) (a' := ?_) #[true, false, true, false, false, true, false, false, false, false, false, false] rfl rfl (any_of HT_.out (by kernel_rfl)) (fun _ _ _ h => h) (Or.inl ⟨by rfl, ?_⟩) ?_ ?_
               rotate_left
               ·intro w'
                go_simp
                with_reducible rfl
               rotate_left
               ·simp only [Act.put, List.setIfInBounds_toArray, List.set_cons_zero, List.set_cons_succ, i64_w, i32_w]
                rfl
               refine pure_ (i := 7) (N := some 54) (v := ?_) (a' := ?_) #[true, false, true, false, false, true, false, true, false, false, false, false] rfl rfl (any_of HT_.out (by kernel_rfl)) (fun _ _ _ h => h) (Or.inl ⟨by rfl, ?_⟩) ?_ ?_
               rotate_left
               ·intro w'
                go_simp
                with_reducible rfl
               rotate_left
               ·simp only [Act.put, List.setIfInBounds_toArray, List.set_cons_zero, List.set_cons_succ, i64_w, i32_w]
                rfl
               refine take_ (i := 1) (N := some 48) (v := ?_) (a' := ?_) #[true, true, true, false, false, true, false, true, false, false, false, false] rfl rfl (take_ofW HT_.out HW_.out (by kernel_rfl)) (fun _ _ _ h => h) (Or.inl ⟨by rfl, ?_⟩) hHeld ?_ ?_
               rotate_left
               ·rintro w' ⟨s0, s1, s2, s3, s4, s5, s6, s7, s8, s9, s10, s11, s12, s13, s14, s15⟩
                go_simp
                with_reducible rfl
               rotate_left
               ·simp only [Act.put, List.setIfInBounds_toArray, List.set_cons_zero, List.set_cons_succ, i64_w, i32_w]
                rfl
               refine pure_ (i := 3) (N := some 50) (v := ?_) (a' := ?_) #[true, true, true, true, false, true, false, true, false, false, false, false] rfl rfl (any_of HT_.out (by kernel_rfl)) (fun _ _ _ h => h) (Or.inl ⟨by rfl, ?_⟩) ?_ ?_
               rotate_left
               ·intro w'
                go_simp
                with_reducible rfl
               rotate_left
               ·simp only [Act.put, List.setIfInBounds_toArray, List.set_cons_zero, List.set_cons_succ, i64_w, i32_w]
                rfl
               refine take_ (i := 4) (N := some 51) (v := ?_) (a' := ?_) #[true, true, true, true, true, true, false, true, false, false, false, false] rfl rfl (take_ofW HT_.out HW_.out (by kernel_rfl)) (fun _ _ _ h => h) (Or.inl ⟨by rfl, ?_⟩) hHeld ?_ ?_
               rotate_left
               ·rintro w' ⟨s0, s1, s2, s3, s4, s5, s6, s7, s8, s9, s10, s11, s12, s13, s14, s15⟩
                go_simp
                with_reducible rfl
               rotate_left
               ·simp only [Act.put, List.setIfInBounds_toArray, List.set_cons_zero, List.set_cons_succ, i64_w, i32_w]
                rfl
               refine take_ (i := 6) (N := some 53) (v := ?_) (a' := ?_) #[true, true, true, true, true, true, true, true, false, false, false, false] rfl rfl (take_ofW HT_.out HW_.out (by kernel_rfl)) (fun _ _ _ h => h) (Or.inl ⟨by rfl, ?_⟩) hHeld ?_ ?_
               rotate_left
               ·rintro w' ⟨s0, s1, s2, s3, s4, s5, s6, s7, s8, s9, s10, s11, s12, s13, s14, s15⟩
                go_simp
                with_reducible rfl
               rotate_left
               ·simp only [Act.put, List.setIfInBounds_toArray, List.set_cons_zero, List.set_cons_succ, i64_w, i32_w]
                rfl
               refine pure_ (i := 8) (N := some 55) (v := ?_) (a' := ?_) #[true, true, true, true, true, true, true, true, true, false, false, false] rfl rfl (any_of HT_.out (by kernel_rfl)) (fun _ _ _ h => h) (Or.inl ⟨by rfl, ?_⟩) ?_ ?_
               rotate_left
               ·intro w'
                go_simp
                with_reducible rfl
               rotate_left
               ·simp only [Act.put, List.setIfInBounds_toArray, List.set_cons_zero, List.set_cons_succ, i64_w, i32_w]
                rfl
               refine take_ (i := 9) (N := some 56) (v := ?_) (a' := ?_) #[true, true, true, true, true, true, true, true, true, true, false, false] rfl rfl (take_ofW HT_.out HW_.out (by kernel_rfl)) (fun _ _ _ h => h) (Or.inl ⟨by rfl, ?_⟩) hHeld ?_ ?_
               rotate_left
               ·rintro w' ⟨s0, s1, s2, s3, s4, s5, s6, s7, s8, s9, s10, s11, s12, s13, s14, s15⟩
                go_simp
                with_reducible rfl
               rotate_left
               ·simp only [Act.put, List.setIfInBounds_toArray, List.set_cons_zero, List.set_cons_succ, i64_w, i32_w]
                rfl
               refine one_ (i := 10) (N := some 57) #[true, true, true, true, true, true, true, true, true, true, true, false] rfl rfl (one_of HT_.out (by kernel_rfl)) (by decide) (fun K hK => ?_)
               refine goes_ Tryd.func144 (by kernel_rfl) rfl #[.agg #[.int .i64 ((rdV l0_3 x44_3).kind), .int .u64 ((rdV l0_3 x44_3).n), .string ((rdV l0_3 x44_3).text), .slice A1721_3 ((rdV l0_3 x44_3).items).length c1721_3], .agg #[.int .i64 ((rdV l1_3 x44_3).kind), .int .u64 ((rdV l1_3 x44_3).n), .string ((rdV l1_3 x44_3).text), .slice A1722_3 ((rdV l1_3 x44_3).items).length c1722_3]] (by rfl) rfl rfl (by (try simp only [List.map_toArray, List.map_cons, List.map_nil]); first | done | rfl | (simp only [List.length_drop, List.length_take]; rfl)) ?_
               with_reducible refine (ih k3 (by have := HJ2.out; have := HJ17.out; have := HK3.out; omega) ((rdV l0_3 x44_3).kind) ((rdV l0_3 x44_3).n) ((rdV l0_3 x44_3).text) _ _ ((rdV l0_3 x44_3).items) ((rdV l1_3 x44_3).kind) ((rdV l1_3 x44_3).n) ((rdV l1_3 x44_3).text) _ _ ((rdV l1_3 x44_3).items) false _ ?side1 ?side2 ?side3 ?side4 A43.out).mono ?_
               (case side1 => repeat (first | exact (Kd.C_below HR1721_3.out HB.out) | (with_reducible refine Kd.C_alloc ?_ _) | (with_reducible refine Kd.C_drewN ?_ _) | (with_reducible refine Kd.C_drew ?_)))
               (case side2 => exact HC1721_3.out)
               (case side3 => repeat (first | exact (Kd.C_below HR1722_3.out HB.out) | (with_reducible refine Kd.C_alloc ?_ _) | (with_reducible refine Kd.C_drewN ?_ _) | (with_reducible refine Kd.C_drew ?_)))
               (case side4 => exact HC1722_3.out)
               rintro e w48 ⟨rfl, hb⟩
               refine ⟨_, rfl, ?_⟩
               have n0_ := Aside0.mk (blk_below (g := gb1717) (o := .cells #[.int .i64 a0_0, .int .u64 a0_1, .string a0_2, .slice (some ad1721) l0_3.length c0_3] 25 (0, 0)) (by (with_reducible repeat (first | refine blk_drewN ?_ _ | refine blk_drew ?_ | refine blk_alloc ?_ _)); exact BK1717.out) hb)
               have n1_ := Aside0.mk (blk_below (g := gb1718) (o := .cells #[.int .i64 a1_0, .int .u64 a1_1, .string a1_2, .slice (some ad1722) l1_3.length c1_3] 25 (0, 0)) (by (with_reducible repeat (first | refine blk_drewN ?_ _ | refine blk_drew ?_ | refine blk_alloc ?_ _)); exact BK1718.out) hb)
               have n2_ := Aside0.mk (below_step (by repeat (first | (with_reducible first | exact HB.out | apply below_alloc | apply pw_below_drewN | apply below_drew1 | refine below_set ?_ GE1717.out | refine below_set ?_ GE1718.out) | exact HB.out)) hb)
               clear BK1717
               clear BK1718
               clear HB
               have BK1717 := n0_
               have BK1718 := n1_
               have HB := n2_
               clear n0_ n1_ n2_
               (try clear hb)
               (try clear hb2)
               (try clear hk)
               (try clear hi)
               refine hK.out _ _ ⟨(blk_cell BK1717.out 0).trans rfl, (blk_cell BK1717.out 1).trans rfl, (blk_cell BK1717.out 2).trans rfl, (blk_cell BK1717.out 3).trans rfl, (blk_cell BK1718.out 0).trans rfl, (blk_cell BK1718.out 1).trans rfl, (blk_cell BK1718.out 2).trans rfl, (blk_cell BK1718.out 3).trans rfl, ((HB.out.cell (World.block_lt_of_cell? w _ hw1721_0)).trans hw1721_0), ((HB.out.cell (World.block_lt_of_cell? w _ hw1721_1)).trans hw1721_1), ((HB.out.cell (World.block_lt_of_cell? w _ hw1721_2)).trans hw1721_2), ((HB.out.cell (World.block_lt_of_cell? w _ hw1721_3)).trans hw1721_3), ((HB.out.cell (World.block_lt_of_cell? w _ hw1722_0)).trans hw1722_0), ((HB.out.cell (World.block_lt_of_cell? w _ hw1722_1)).trans hw1722_1), ((HB.out.cell (World.block_lt_of_cell? w _ hw1722_2)).trans hw1722_2), ((HB.out.cell (World.block_lt_of_cell? w _ hw1722_3)).trans hw1722_3)⟩ (fun hHeld => ?_)
               clear hK K
               refine norm_ (a' := ?_) ?_ ?_
               rotate_left
               ·show Act.put _ (some 57) _ = _
                simp only [Act.put, List.setIfInBounds_toArray, List.set_cons_zero, List.set_cons_succ, i64_w, i32_w]
                rfl
               refine pure_ (i := 11) (N := some 58) (v := ?_) (a' := ?_) #[true, true, true, true, true, true, true, true, true, true, true, true] rfl rfl (any_of HT_.out (by kernel_rfl)) (fun _ _ _ h => h) (Or.inl ⟨by rfl, ?_⟩) ?_ ?_
               rotate_left
               ·intro w'
                go_simp
                with_reducible rfl
               rotate_left
               ·simp only [Act.put, List.setIfInBounds_toArray, List.set_cons_zero, List.set_cons_succ, i64_w, i32_w]
                rfl
               refine done_ (done_of HT_.out (by kernel_rfl)) ?_
               try go_wp2
               go_ret
               exact ⟨by first | rfl | (simp [errW_none, errW_some] <;> rfl) | (simp [*, errW_none, errW_some] <;> rfl), by repeat (first | (with_reducible first | exact HB.out | apply below_alloc | apply pw_below_drewN | apply below_drew1 | refine below_set ?_ GE1717.out | refine below_set ?_ GE1718.out) | exact HB.out)⟩
             ·rw [if_neg c42] at H
              exact absurd H (by simp)
            ·rw [if_neg c41] at H
             exact absurd H (by simp)
           ·rw [if_neg c40] at H
            exact absurd H (by simp)
          ·rw [if_neg c39] at H
           have c39b0 : decide (x44_3 < (l0_3.length : Int)) = false := decide_eq_false c39
           clear c39
           obtain rfl := Option.some.inj H
           go_wp2
           go_ret
           exact ⟨by first | rfl | (simp [errW_none, errW_some] <;> rfl) | (simp [*, errW_none, errW_some] <;> rfl), by repeat (first | (with_reducible first | exact HB.out | apply below_alloc | apply pw_below_drewN | apply below_drew1 | refine below_set ?_ GE1717.out | refine below_set ?_ GE1718.out) | exact HB.out)⟩
def amqvalue_keys.T9 : Bool × List (List Nat × List Nat) := (true, [([], []), ([0], [0]), ([], []), ([1, 2], [1, 2]), ([3], [3]), ([], []), ([5], [5]), ([], []), ([6, 7], [6, 7]), ([8], [8]), ([4, 9], [4, 9])])
def amqvalue_keys.B9 : List Nat := [0, 1, 0, 7, 15, 0, 32, 0, 224, 480, 1023]
theorem amqvalue_keys.tab9 : rtab .any (opsOf Tryd.f111 9) = amqvalue_keys.T9 := by kernel_rfl
theorem amqvalue_keys.bits9 : waitsOk amqvalue_keys.T9.2 amqvalue_keys.B9 = true := by kernel_rfl
set_option maxHeartbeats 8000000 in
set_option maxRecDepth 100000 in
theorem amqvalue_keys.calls (k : Nat) (a0_0 : Int) (a0_1 : Int) (a0_2 : ByteArray) (A0_3 : Option Addr) (c0_3 : Nat) (l0_3 : List (Vl)) (r : Int) (w : World) (hr0_3 : Kd.C kV w A0_3 l0_3.length l0_3) (hc0_3 : l0_3.length ≤ c0_3) (h : amqvalue_keys.f k a0_0 a0_1 a0_2 l0_3 = some r) :
    Calls Tryd.prog 111 #[.agg #[.int .i64 a0_0, .int .u64 a0_1, .string a0_2, .slice A0_3 l0_3.length c0_3]] w fun e w' => e = .returned (.int .i64 r) ∧ Below w.heap.size w w' := by
  have hu25 := Tryd.underlying25
  have HR0_3 := Aside0.mk hr0_3
  have HC0_3 := Aside0.mk hc0_3
  clear hr0_3 hc0_3
  have HB := Aside0.mk (Below.refl w.heap.size w)
  have H : (if a0_0 = 23 then (amqvalue_keys.l0 k 2 a0_0 a0_1 a0_2 l0_3) else (some 0)) = some r := h
  clear h
  by_cases c2 : a0_0 = 23
  ·rw [if_pos c2] at H
   have c2b0 : (a0_0 == 23) = true := beq_iff_eq.mpr c2
   have c2b1 : (a0_0 != 23) = false := bne_eq_false_iff_eq.mpr c2
   clear c2
   have H' := Aside0.mk H
   clear H
   go_enter Tryd.func111, Tryd.ntmps111
   go_wp2_with (first | ((with_reducible refine gate_dst (N := 1) rfl ?_); refine box_event ?hg (N := 1) ?hd (cs := #[.int .i64 a0_0, .int .u64 a0_1, .string a0_2, .slice A0_3 l0_3.length c0_3]) (t := 25) ?hr ?_; (case hd => rfl); (case hg => rfl); (case hr => first | (go_simp; done) | (go_simp; rfl)); intro gb1724 hg w3 hbox hb; have n0_ := Aside0.mk (below_step (by repeat (first | (with_reducible first | exact HB.out | apply below_alloc | apply pw_below_drewN | apply below_drew1) | exact HB.out)) hb); have n1_ := Aside0.mk (hbox); have n2_ := Aside0.mk ((by rw [hg]; exact (below_size (by repeat (first | (with_reducible first | exact HB.out | apply below_alloc | apply pw_below_drewN | apply below_drew1) | exact HB.out))) : w.heap.size ≤ gb1724)); have n3_ := Aside0.mk ((by rw [hg]; exact (below_size (by repeat (first | (with_reducible first | exact HB.out | apply below_alloc | apply pw_below_drewN | apply below_drew1) | exact HB.out))) : w.heap.size ≤ gb1724)); clear HB; have HB := n0_; have BK1724 := n1_; have GW1724 := n2_; have GE1724 := n3_; clear n0_ n1_ n2_ n3_; clear hb hbox hg; have hcz4_0 : w3.cell? ⟨gb1724, 0, none⟩ = some (.int .i64 a0_0) := (blk_cell BK1724.out 0).trans rfl; have hcz4_1 : w3.cell? ⟨gb1724, 1, none⟩ = some (.int .u64 a0_1) := (blk_cell BK1724.out 1).trans rfl; have hcz4_2 : w3.cell? ⟨gb1724, 2, none⟩ = some (.string a0_2) := (blk_cell BK1724.out 2).trans rfl; have hcz4_3 : w3.cell? ⟨gb1724, 3, none⟩ = some (.slice A0_3 l0_3.length c0_3) := (blk_cell BK1724.out 3).trans rfl; have hfz4_0 := blk_frozen BK1724.out 0; have hfz4_1 := blk_frozen BK1724.out 1; have hfz4_2 := blk_frozen BK1724.out 2; have hfz4_3 := blk_frozen BK1724.out 3))
   go_loopg [3] k (fun kq v3 w' => ∃ (x3_1 : Int), v3 = .int .i64 x3_1 ∧ Aside0 (amqvalue_keys.l0 kq x3_1 a0_0 a0_1 a0_2 l0_3 = some r) ∧ Aside0 (kq ≤ k) ∧ Aside0 (w'.heap[gb1724]? = some (.cells #[.int .i64 a0_0, .int .u64 a0_1, .string a0_2, (.slice A0_3 l0_3.length c0_3)] 25 (0, 0))) ∧ Aside0 (Below w.heap.size w w'))
   case atStart => exact ⟨(2), (by first | rfl | (simp; done) | (simp [*]; done)), H', ⟨Nat.le_refl _⟩, ⟨by (with_reducible repeat (first | refine blk_drewN ?_ _ | refine blk_drew ?_ | refine blk_alloc ?_ _)); exact BK1724.out⟩, ⟨by repeat (first | (with_reducible first | exact HB.out | apply below_alloc | apply pw_below_drewN | apply below_drew1 | refine below_set ?_ GE1724.out) | exact HB.out)⟩⟩
   case round =>
    clear H'
    try clear c1
    try clear c2
    try clear c2b0
    try clear c2b1
    try clear p2
    try clear hcz4_0
    try clear hcz4_1
    try clear hcz4_2
    try clear hcz4_3
    try clear hfz4_0
    try clear hfz4_1
    try clear hfz4_2
    try clear hfz4_3
    obtain ⟨x3_1, rfl, HA, HK1, BK1724, HB⟩ := hrel
    cases gk with
    | zero => exact absurd HA.out (by simp [amqvalue_keys.l0])
    | succ k1 =>
     have H := HA.out
     clear HA
     simp only [amqvalue_keys.l0] at H
     by_cases c5 : x3_1 < (l0_3.length : Int)
     ·rw [if_pos c5] at H
      have c5b0 : decide (x3_1 < (l0_3.length : Int)) = true := decide_eq_true c5
      clear c5
      have H' := Aside0.mk H
      clear H
      have hcz6_0 : wr.cell? ⟨gb1724, 0, none⟩ = some (.int .i64 a0_0) := (blk_cell BK1724.out 0).trans rfl
      have hcz6_1 : wr.cell? ⟨gb1724, 1, none⟩ = some (.int .u64 a0_1) := (blk_cell BK1724.out 1).trans rfl
      have hcz6_2 : wr.cell? ⟨gb1724, 2, none⟩ = some (.string a0_2) := (blk_cell BK1724.out 2).trans rfl
      have hcz6_3 : wr.cell? ⟨gb1724, 3, none⟩ = some (.slice A0_3 l0_3.length c0_3) := (blk_cell BK1724.out 3).trans rfl
      have hfz6_0 := blk_frozen BK1724.out 0
      have hfz6_1 := blk_frozen BK1724.out 1
      have hfz6_2 := blk_frozen BK1724.out 2
      have hfz6_3 := blk_frozen BK1724.out 3
      go_wp2
      go_loopg [4] k1 (fun kq v4 w' => ∃ (x4_2 : Int), v4 = .int .i64 x4_2 ∧ Aside0 (amqvalue_keys.l1 kq x3_1 x4_2 a0_0 a0_1 a0_2 l0_3 = some r) ∧ Aside0 (kq ≤ k1) ∧ Aside0 (w'.heap[gb1724]? = some (.cells #[.int .i64 a0_0, .int .u64 a0_1, .string a0_2, (.slice A0_3 l0_3.length c0_3)] 25 (0, 0))) ∧ Aside0 (Below w.heap.size w w'))
      case atStart => exact ⟨(0), (by first | rfl | (simp; done) | (simp [*]; done)), H', ⟨Nat.le_refl _⟩, ⟨by (with_reducible repeat (first | refine blk_drewN ?_ _ | refine blk_drew ?_ | refine blk_alloc ?_ _)); exact BK1724.out⟩, ⟨by repeat (first | (with_reducible first | exact HB.out | apply below_alloc | apply pw_below_drewN | apply below_drew1 | refine below_set ?_ GE1724.out) | exact HB.out)⟩⟩
      case round =>
       clear H'
       try clear c1
       try clear c2
       try clear c2b0
       try clear c2b1
       try clear p2
       try clear c5
       try clear c5b0
       try clear hcz4_0
       try clear hcz4_1
       try clear hcz4_2
       try clear hcz4_3
       try clear hcz6_0
       try clear hcz6_1
       try clear hcz6_2
       try clear hcz6_3
       try clear hfz4_0
       try clear hfz4_1
       try clear hfz4_2
       try clear hfz4_3
       try clear hfz6_0
       try clear hfz6_1
       try clear hfz6_2
       try clear hfz6_3
       try clear p2
       obtain ⟨x4_2, rfl, HA, HK2, BK1724, HB⟩ := hrel
       cases gk with
       | zero => exact absurd HA.out (by simp [amqvalue_keys.l1])
       | succ k2 =>
        have H := HA.out
        clear HA
        simp only [amqvalue_keys.l1] at H
        by_cases c7 : x4_2 < x3_1
        ·rw [if_pos c7] at H
         have c7b0 : decide (x4_2 < x3_1) = true := decide_eq_true c7
         clear c7
         by_cases c8 : 0 ≤ x3_1
         ·rw [if_pos c8] at H
          have c8b0 : decide (0 ≤ x3_1) = true := decide_eq_true c8
          clear c8
          by_cases c9 : x3_1 < (l0_3.length : Int)
          ·rw [if_pos c9] at H
           have c9b0 : decide (x3_1 < (l0_3.length : Int)) = true := decide_eq_true c9
           clear c9
           by_cases c10 : 0 ≤ x4_2
           ·rw [if_pos c10] at H
            have c10b0 : decide (0 ≤ x4_2) = true := decide_eq_true c10
            clear c10
            by_cases c11 : x4_2 < (l0_3.length : Int)
            ·rw [if_pos c11] at H
             have c11b0 : decide (x4_2 < (l0_3.length : Int)) = true := decide_eq_true c11
             clear c11
             replace H := Option.bind_eq_some_iff.mp H
             obtain ⟨t1727, A120, H⟩ := H
             replace H : (if t1727 = true then (some 16) else (amqvalue_keys.l1 k2 x3_1 (wrap64 (x4_2 + 2)) a0_0 a0_1 a0_2 l0_3)) = some r := H
             have A12 := Aside0.mk A120
             clear A120
             by_cases c13 : t1727 = true
             ·subst c13
              have H1 : (some 16) = some r := by rw [if_pos rfl] at H; exact H
              clear H
              have H := H1
              clear H1
              obtain rfl := Option.some.inj H
              try go_wp2
              have n0_ := Aside0.mk (blk_drew BK1724.out)
              have n1_ := Aside0.mk (below_drew1 HB.out)
              clear BK1724
              clear HB
              have BK1724 := n0_
              have HB := n1_
              clear n0_ n1_
              have p1725 : 0 ≤ (x3_1 : Int) := of_decide_eq_true (by first | (with_reducible assumption) | assumption)
              have q1725 : x3_1 < (l0_3.length : Int) := of_decide_eq_true (by first | (with_reducible assumption) | assumption)
              obtain ⟨ad1725, A1725_3, c1725_3, e1725, hx1725_0, hx1725_1, hx1725_2, hx1725_3, hl1725_3, hi1725_3⟩ := atV HR0_3.out x3_1 p1725 q1725
              have hw1725_3 := hx1725_3
              have hw1725_2 := hx1725_2
              have hw1725_1 := hx1725_1
              have hw1725_0 := hx1725_0
              cases e1725
              replace hx1725_0 := (HB.out.cell (World.block_lt_of_cell? w _ hx1725_0)).trans hx1725_0
              replace hx1725_1 := (HB.out.cell (World.block_lt_of_cell? w _ hx1725_1)).trans hx1725_1
              replace hx1725_2 := (HB.out.cell (World.block_lt_of_cell? w _ hx1725_2)).trans hx1725_2
              replace hx1725_3 := (HB.out.cell (World.block_lt_of_cell? w _ hx1725_3)).trans hx1725_3
              have HR1725_3 := Aside0.mk hi1725_3
              have HC1725_3 := Aside0.mk hl1725_3
              clear hi1725_3 hl1725_3
              replace p1725 := eq_true p1725
              replace q1725 := eq_true q1725
              have p1726 : 0 ≤ (x4_2 : Int) := of_decide_eq_true (by first | (with_reducible assumption) | assumption)
              have q1726 : x4_2 < (l0_3.length : Int) := of_decide_eq_true (by first | (with_reducible assumption) | assumption)
              obtain ⟨ad1726, A1726_3, c1726_3, e1726, hx1726_0, hx1726_1, hx1726_2, hx1726_3, hl1726_3, hi1726_3⟩ := atV HR0_3.out x4_2 p1726 q1726
              have hw1726_3 := hx1726_3
              have hw1726_2 := hx1726_2
              have hw1726_1 := hx1726_1
              have hw1726_0 := hx1726_0
              obtain rfl : ad1725 = ad1726 := (by injection e1726)
              replace hx1726_0 := (HB.out.cell (World.block_lt_of_cell? w _ hx1726_0)).trans hx1726_0
              replace hx1726_1 := (HB.out.cell (World.block_lt_of_cell? w _ hx1726_1)).trans hx1726_1
              replace hx1726_2 := (HB.out.cell (World.block_lt_of_cell? w _ hx1726_2)).trans hx1726_2
              replace hx1726_3 := (HB.out.cell (World.block_lt_of_cell? w _ hx1726_3)).trans hx1726_3
              have HR1726_3 := Aside0.mk hi1726_3
              have HC1726_3 := Aside0.mk hl1726_3
              clear hi1726_3 hl1726_3
              replace p1726 := eq_true p1726
              replace q1726 := eq_true q1726
              refine start_ (n := 11) (S := fun w' => w'.cell? ⟨gb1724, 0, none⟩ = some (.int .i64 a0_0) ∧ w'.cell? ⟨gb1724, 1, none⟩ = some (.int .u64 a0_1) ∧ w'.cell? ⟨gb1724, 2, none⟩ = some (.string a0_2) ∧ w'.cell? ⟨gb1724, 3, none⟩ = some (.slice (some ad1725) l0_3.length c0_3) ∧ w'.cell? (ad1725.add ((x3_1).toNat * 4)) = some (.int .i64 ((rdV l0_3 x3_1).kind)) ∧ w'.cell? ⟨(ad1725.add ((x3_1).toNat * 4)).block, (ad1725.add ((x3_1).toNat * 4)).off + 1, none⟩ = some (.int .u64 ((rdV l0_3 x3_1).n)) ∧ w'.cell? ⟨(ad1725.add ((x3_1).toNat * 4)).block, (ad1725.add ((x3_1).toNat * 4)).off + 2, none⟩ = some (.string ((rdV l0_3 x3_1).text)) ∧ w'.cell? ⟨(ad1725.add ((x3_1).toNat * 4)).block, (ad1725.add ((x3_1).toNat * 4)).off + 3, none⟩ = some (.slice A1725_3 ((rdV l0_3 x3_1).items).length c1725_3) ∧ w'.cell? (ad1725.add ((x4_2).toNat * 4)) = some (.int .i64 ((rdV l0_3 x4_2).kind)) ∧ w'.cell? ⟨(ad1725.add ((x4_2).toNat * 4)).block, (ad1725.add ((x4_2).toNat * 4)).off + 1, none⟩ = some (.int .u64 ((rdV l0_3 x4_2).n)) ∧ w'.cell? ⟨(ad1725.add ((x4_2).toNat * 4)).block, (ad1725.add ((x4_2).toNat * 4)).off + 2, none⟩ = some (.string ((rdV l0_3 x4_2).text)) ∧ w'.cell? ⟨(ad1725.add ((x4_2).toNat * 4)).block, (ad1725.add ((x4_2).toNat * 4)).off + 3, none⟩ = some (.slice A1726_3 ((rdV l0_3 x4_2).items).length c1726_3)) (ds := []) #[false, false, false, false, false, false, false, false, false, false, false] (by kernel_rfl) rfl rfl ⟨(blk_cell BK1724.out 0).trans rfl, (blk_cell BK1724.out 1).trans rfl, (blk_cell BK1724.out 2).trans rfl, (blk_cell BK1724.out 3).trans rfl, ((HB.out.cell (World.block_lt_of_cell? w _ hw1725_0)).trans hw1725_0), ((HB.out.cell (World.block_lt_of_cell? w _ hw1725_1)).trans hw1725_1), ((HB.out.cell (World.block_lt_of_cell? w _ hw1725_2)).trans hw1725_2), ((HB.out.cell (World.block_lt_of_cell? w _ hw1725_3)).trans hw1725_3), ((HB.out.cell (World.block_lt_of_cell? w _ hw1726_0)).trans hw1726_0), ((HB.out.cell (World.block_lt_of_cell? w _ hw1726_1)).trans hw1726_1), ((HB.out.cell (World.block_lt_of_cell? w _ hw1726_2)).trans hw1726_2), ((HB.out.cell (World.block_lt_of_cell? w _ hw1726_3)).trans hw1726_3)⟩ (fun hHeld => ?_); refine with_tabW amqvalue_keys.tab9 amqvalue_keys.bits9 (fun HT_ HW_ => ?_)
              generalize wr.drew = w14 at BK1724 HB HR1725_3 HR1726_3 hx1725_0 hx1725_1 hx1725_2 hx1725_3 hx1726_0 hx1726_1 hx1726_2 hx1726_3 hHeld ⊢
              refine pure_ (i := 0) (N := some 20) (v := ?_) (a' := ?_) #[true, false, false, false, false, false, false, false, false, false, false] rfl rfl (any_of HT_.out (by kernel_rfl)) (fun _ _ _ h => h) (Or.inl ⟨by rfl, ?_⟩) ?_ ?_
              rotate_left
              ·intro w'
               go_simp
               with_reducible rfl
              rotate_left
              ·simp only [Act.put, List.setIfInBounds_toArray, List.set_cons_zero, List.set_cons_succ, i64_w, i32_w]
               rfl
              refine pure_ (i := 2) (N := some 22) (v := ?_) (a' := ?_) #[true, false, true, false, false, false, false, false, false, false, false] rfl rfl (any_of HT_.out (by kernel_rfl)) (fun _ _ _ h => h) (Or.inl ⟨by rfl, ?_⟩) ?_ ?_
              rotate_left
              ·intro w'
               go_simp
               with_reducible rfl
              rotate_left
              ·simp only [Act.put, List.setIfInBounds_toArray, List.set_cons_zero, List.set_cons_succ, i64_w, i32_w]
               rfl
              refine pure_ (i := 5) (N := some 25) (v := ?_) (a' := ?_) #[true, false, true, false, false, true, false, false, false, false, false] rfl rfl (any_of HT_.out (by kernel_rfl)) (fun _ _ _ h => h) (Or.inl ⟨by rfl, ?_⟩) ?_ ?_
              rotate_left
              ·intro w'
               go_simp
               with_reducible rfl
              rotate_left
              ·simp only [Act.put, List.setIfInBounds_toArray, List.set_cons_zero, List.set_cons_succ, i64_w, i32_w]
               rfl
              refine pure_ (i := 7) (N := some 27) (v := ?_) (a' := ?_) #[true, false, true, false, false, true, false, true, false, false, false] rfl rfl (any_of HT_.out (by kernel_rfl)) (fun _ _ _ h => h) (Or.inl ⟨by rfl, ?_⟩) ?_ ?_
              rotate_left
              ·intro w'
               go_simp
               with_reducible rfl
              rotate_left
              ·simp only [Act.put, List.setIfInBounds_toArray, List.set_cons_zero, List.set_cons_succ, i64_w, i32_w]
               rfl
              refine take_ (i := 1) (N := some 21) (v := ?_) (a' := ?_) #[true, true, true, false, false, true, false, true, false, false, false] rfl rfl (take_ofW HT_.out HW_.out (by kernel_rfl)) (fun _ _ _ h => h) (Or.inl ⟨by rfl, ?_⟩) hHeld ?_ ?_
              rotate_left
              ·rintro w' ⟨s0, s1, s2, s3, s4, s5, s6, s7, s8, s9, s10, s11⟩
               go_simp
               with_reducible rfl
              rotate_left
              ·simp only [Act.put, List.setIfInBounds_toArray, List.set_cons_zero, List.set_cons_succ, i64_w, i32_w]
               rfl
              refine pure_ (i := 3) (N := some 23) (v := ?_) (a' := ?_) #[true, true, true, true, false, true, false, true, false, false, false] rfl rfl (any_of HT_.out (by kernel_rfl)) (fun _ _ _ h => h) (Or.inl ⟨by rfl, ?_⟩) ?_ ?_
              rotate_left
              ·intro w'
               go_simp
               with_reducible rfl
              rotate_left
              ·simp only [Act.put, List.setIfInBounds_toArray, List.set_cons_zero, List.set_cons_succ, i64_w, i32_w]
               rfl
              refine take_ (i := 4) (N := some 24) (v := ?_) (a' := ?_) #[true, true, true, true, true, true, false, true, false, false, false] rfl rfl (take_ofW HT_.out HW_.out (by kernel_rfl)) (fun _ _ _ h => h) (Or.inl ⟨by rfl, ?_⟩) hHeld ?_ ?_
              rotate_left
              ·rintro w' ⟨s0, s1, s2, s3, s4, s5, s6, s7, s8, s9, s10, s11⟩
               go_simp
               with_reducible rfl
              rotate_left
              ·simp only [Act.put, List.setIfInBounds_toArray, List.set_cons_zero, List.set_cons_succ, i64_w, i32_w]
               rfl
              refine take_ (i := 6) (N := some 26) (v := ?_) (a' := ?_) #[true, true, true, true, true, true, true, true, false, false, false] rfl rfl (take_ofW HT_.out HW_.out (by kernel_rfl)) (fun _ _ _ h => h) (Or.inl ⟨by rfl, ?_⟩) hHeld ?_ ?_
              rotate_left
              ·rintro w' ⟨s0, s1, s2, s3, s4, s5, s6, s7, s8, s9, s10, s11⟩
               go_simp
               with_reducible rfl
              rotate_left
              ·simp only [Act.put, List.setIfInBounds_toArray, List.set_cons_zero, List.set_cons_succ, i64_w, i32_w]
               rfl
              refine pure_ (i := 8) (N := some 28) (v := ?_) (a' := ?_) #[true, true, true, true, true, true, true, true, true, false, false] rfl rfl (any_of HT_.out (by kernel_rfl)) (fun _ _ _ h => h) (Or.inl ⟨by rfl, ?_⟩) ?_ ?_
              rotate_left
              ·intro w'
               go_simp
               with_reducible rfl
              rotate_left
              ·simp only [Act.put, List.setIfInBounds_toArray, List.set_cons_zero, List.set_cons_succ, i64_w, i32_w]
               rfl
              refine take_ (i := 9) (N := some 29) (v := ?_) (a' := ?_) #[true, true, true, true, true, true, true, true, true, true, false] rfl rfl (take_ofW HT_.out HW_.out (by kernel_rfl)) (fun _ _ _ h => h) (Or.inl ⟨by rfl, ?_⟩) hHeld ?_ ?_
              rotate_left
              ·rintro w' ⟨s0, s1, s2, s3, s4, s5, s6, s7, s8, s9, s10, s11⟩
               go_simp
               with_reducible rfl
              rotate_left
              ·simp only [Act.put, List.setIfInBounds_toArray, List.set_cons_zero, List.set_cons_succ, i64_w, i32_w]
               rfl
              refine one_ (i := 10) (N := some 30) #[true, true, true, true, true, true, true, true, true, true, true] rfl rfl (one_of HT_.out (by kernel_rfl)) (by decide) (fun K hK => ?_)
              refine goes_ Tryd.func144 (by kernel_rfl) rfl #[.agg #[.int .i64 ((rdV l0_3 x3_1).kind), .int .u64 ((rdV l0_3 x3_1).n), .string ((rdV l0_3 x3_1).text), .slice A1725_3 ((rdV l0_3 x3_1).items).length c1725_3], .agg #[.int .i64 ((rdV l0_3 x4_2).kind), .int .u64 ((rdV l0_3 x4_2).n), .string ((rdV l0_3 x4_2).text), .slice A1726_3 ((rdV l0_3 x4_2).items).length c1726_3]] (by rfl) rfl rfl (by (try simp only [List.map_toArray, List.map_cons, List.map_nil]); first | done | rfl | (simp only [List.length_drop, List.length_take]; rfl)) ?_
              with_reducible refine (amqvalue_alike.calls k2 ((rdV l0_3 x3_1).kind) ((rdV l0_3 x3_1).n) ((rdV l0_3 x3_1).text) _ _ ((rdV l0_3 x3_1).items) ((rdV l0_3 x4_2).kind) ((rdV l0_3 x4_2).n) ((rdV l0_3 x4_2).text) _ _ ((rdV l0_3 x4_2).items) true _ ?side1 ?side2 ?side3 ?side4 A12.out).mono ?_
              (case side1 => repeat (first | exact (Kd.C_below HR1725_3.out HB.out) | (with_reducible refine Kd.C_alloc ?_ _) | (with_reducible refine Kd.C_drewN ?_ _) | (with_reducible refine Kd.C_drew ?_)))
              (case side2 => exact HC1725_3.out)
              (case side3 => repeat (first | exact (Kd.C_below HR1726_3.out HB.out) | (with_reducible refine Kd.C_alloc ?_ _) | (with_reducible refine Kd.C_drewN ?_ _) | (with_reducible refine Kd.C_drew ?_)))
              (case side4 => exact HC1726_3.out)
              rintro e w15 ⟨rfl, hb⟩
              refine ⟨_, rfl, ?_⟩
              have n0_ := Aside0.mk (blk_below (g := gb1724) (o := .cells #[.int .i64 a0_0, .int .u64 a0_1, .string a0_2, .slice (some ad1725) l0_3.length c0_3] 25 (0, 0)) (by (with_reducible repeat (first | refine blk_drewN ?_ _ | refine blk_drew ?_ | refine blk_alloc ?_ _)); exact BK1724.out) hb)
              have n1_ := Aside0.mk (below_step (by repeat (first | (with_reducible first | exact HB.out | apply below_alloc | apply pw_below_drewN | apply below_drew1 | refine below_set ?_ GE1724.out) | exact HB.out)) hb)
              clear BK1724
              clear HB
              have BK1724 := n0_
              have HB := n1_
              clear n0_ n1_
              (try clear hb)
              (try clear hb2)
              (try clear hk)
              (try clear hi)
              refine hK.out _ _ ⟨(blk_cell BK1724.out 0).trans rfl, (blk_cell BK1724.out 1).trans rfl, (blk_cell BK1724.out 2).trans rfl, (blk_cell BK1724.out 3).trans rfl, ((HB.out.cell (World.block_lt_of_cell? w _ hw1725_0)).trans hw1725_0), ((HB.out.cell (World.block_lt_of_cell? w _ hw1725_1)).trans hw1725_1), ((HB.out.cell (World.block_lt_of_cell? w _ hw1725_2)).trans hw1725_2), ((HB.out.cell (World.block_lt_of_cell? w _ hw1725_3)).trans hw1725_3), ((HB.out.cell (World.block_lt_of_cell? w _ hw1726_0)).trans hw1726_0), ((HB.out.cell (World.block_lt_of_cell? w _ hw1726_1)).trans hw1726_1), ((HB.out.cell (World.block_lt_of_cell? w _ hw1726_2)).trans hw1726_2), ((HB.out.cell (World.block_lt_of_cell? w _ hw1726_3)).trans hw1726_3)⟩ (fun hHeld => ?_)
              clear hK K
              refine norm_ (a' := ?_) ?_ ?_
              rotate_left
              ·show Act.put _ (some 30) _ = _
               simp only [Act.put, List.setIfInBounds_toArray, List.set_cons_zero, List.set_cons_succ, i64_w, i32_w]
               rfl
              refine done_ (done_of HT_.out (by kernel_rfl)) ?_
              try go_wp2
              go_ret
              exact ⟨by first | rfl | (simp [errW_none, errW_some] <;> rfl) | (simp [*, errW_none, errW_some] <;> rfl), by repeat (first | (with_reducible first | exact HB.out | apply below_alloc | apply pw_below_drewN | apply below_drew1 | refine below_set ?_ GE1724.out) | exact HB.out)⟩
             ·replace c13 := Bool.eq_false_iff.mpr c13
              subst c13
              have H1 : (amqvalue_keys.l1 k2 x3_1 (wrap64 (x4_2 + 2)) a0_0 a0_1 a0_2 l0_3) = some r := by rw [if_neg (show ¬ (false = true) by decide)] at H; exact H
              clear H
              have H := H1
              clear H1
              have H' := Aside0.mk H
              clear H
              try go_wp2
              have n0_ := Aside0.mk (blk_drew BK1724.out)
              have n1_ := Aside0.mk (below_drew1 HB.out)
              clear BK1724
              clear HB
              have BK1724 := n0_
              have HB := n1_
              clear n0_ n1_
              have p1725 : 0 ≤ (x3_1 : Int) := of_decide_eq_true (by first | (with_reducible assumption) | assumption)
              have q1725 : x3_1 < (l0_3.length : Int) := of_decide_eq_true (by first | (with_reducible assumption) | assumption)
              obtain ⟨ad1725, A1725_3, c1725_3, e1725, hx1725_0, hx1725_1, hx1725_2, hx1725_3, hl1725_3, hi1725_3⟩ := atV HR0_3.out x3_1 p1725 q1725
              have hw1725_3 := hx1725_3
              have hw1725_2 := hx1725_2
              have hw1725_1 := hx1725_1
              have hw1725_0 := hx1725_0
              cases e1725
              replace hx1725_0 := (HB.out.cell (World.block_lt_of_cell? w _ hx1725_0)).trans hx1725_0
              replace hx1725_1 := (HB.out.cell (World.block_lt_of_cell? w _ hx1725_1)).trans hx1725_1
              replace hx1725_2 := (HB.out.cell (World.block_lt_of_cell? w _ hx1725_2)).trans hx1725_2
              replace hx1725_3 := (HB.out.cell (World.block_lt_of_cell? w _ hx1725_3)).trans hx1725_3
              have HR1725_3 := Aside0.mk hi1725_3
              have HC1725_3 := Aside0.mk hl1725_3
              clear hi1725_3 hl1725_3
              replace p1725 := eq_true p1725
              replace q1725 := eq_true q1725
              have p1726 : 0 ≤ (x4_2 : Int) := of_decide_eq_true (by first | (with_reducible assumption) | assumption)
              have q1726 : x4_2 < (l0_3.length : Int) := of_decide_eq_true (by first | (with_reducible assumption) | assumption)
              obtain ⟨ad1726, A1726_3, c1726_3, e1726, hx1726_0, hx1726_1, hx1726_2, hx1726_3, hl1726_3, hi1726_3⟩ := atV HR0_3.out x4_2 p1726 q1726
              have hw1726_3 := hx1726_3
              have hw1726_2 := hx1726_2
              have hw1726_1 := hx1726_1
              have hw1726_0 := hx1726_0
              obtain rfl : ad1725 = ad1726 := (by injection e1726)
              replace hx1726_0 := (HB.out.cell (World.block_lt_of_cell? w _ hx1726_0)).trans hx1726_0
              replace hx1726_1 := (HB.out.cell (World.block_lt_of_cell? w _ hx1726_1)).trans hx1726_1
              replace hx1726_2 := (HB.out.cell (World.block_lt_of_cell? w _ hx1726_2)).trans hx1726_2
              replace hx1726_3 := (HB.out.cell (World.block_lt_of_cell? w _ hx1726_3)).trans hx1726_3
              have HR1726_3 := Aside0.mk hi1726_3
              have HC1726_3 := Aside0.mk hl1726_3
              clear hi1726_3 hl1726_3
              replace p1726 := eq_true p1726
              replace q1726 := eq_true q1726
              refine start_ (n := 11) (S := fun w' => w'.cell? ⟨gb1724, 0, none⟩ = some (.int .i64 a0_0) ∧ w'.cell? ⟨gb1724, 1, none⟩ = some (.int .u64 a0_1) ∧ w'.cell? ⟨gb1724, 2, none⟩ = some (.string a0_2) ∧ w'.cell? ⟨gb1724, 3, none⟩ = some (.slice (some ad1725) l0_3.length c0_3) ∧ w'.cell? (ad1725.add ((x3_1).toNat * 4)) = some (.int .i64 ((rdV l0_3 x3_1).kind)) ∧ w'.cell? ⟨(ad1725.add ((x3_1).toNat * 4)).block, (ad1725.add ((x3_1).toNat * 4)).off + 1, none⟩ = some (.int .u64 ((rdV l0_3 x3_1).n)) ∧ w'.cell? ⟨(ad1725.add ((x3_1).toNat * 4)).block, (ad1725.add ((x3_1).toNat * 4)).off + 2, none⟩ = some (.string ((rdV l0_3 x3_1).text)) ∧ w'.cell? ⟨(ad1725.add ((x3_1).toNat * 4)).block, (ad1725.add ((x3_1).toNat * 4)).off + 3, none⟩ = some (.slice A1725_3 ((rdV l0_3 x3_1).items).length c1725_3) ∧ w'.cell? (ad1725.add ((x4_2).toNat * 4)) = some (.int .i64 ((rdV l0_3 x4_2).kind)) ∧ w'.cell? ⟨(ad1725.add ((x4_2).toNat * 4)).block, (ad1725.add ((x4_2).toNat * 4)).off + 1, none⟩ = some (.int .u64 ((rdV l0_3 x4_2).n)) ∧ w'.cell? ⟨(ad1725.add ((x4_2).toNat * 4)).block, (ad1725.add ((x4_2).toNat * 4)).off + 2, none⟩ = some (.string ((rdV l0_3 x4_2).text)) ∧ w'.cell? ⟨(ad1725.add ((x4_2).toNat * 4)).block, (ad1725.add ((x4_2).toNat * 4)).off + 3, none⟩ = some (.slice A1726_3 ((rdV l0_3 x4_2).items).length c1726_3)) (ds := []) #[false, false, false, false, false, false, false, false, false, false, false] (by kernel_rfl) rfl rfl ⟨(blk_cell BK1724.out 0).trans rfl, (blk_cell BK1724.out 1).trans rfl, (blk_cell BK1724.out 2).trans rfl, (blk_cell BK1724.out 3).trans rfl, ((HB.out.cell (World.block_lt_of_cell? w _ hw1725_0)).trans hw1725_0), ((HB.out.cell (World.block_lt_of_cell? w _ hw1725_1)).trans hw1725_1), ((HB.out.cell (World.block_lt_of_cell? w _ hw1725_2)).trans hw1725_2), ((HB.out.cell (World.block_lt_of_cell? w _ hw1725_3)).trans hw1725_3), ((HB.out.cell (World.block_lt_of_cell? w _ hw1726_0)).trans hw1726_0), ((HB.out.cell (World.block_lt_of_cell? w _ hw1726_1)).trans hw1726_1), ((HB.out.cell (World.block_lt_of_cell? w _ hw1726_2)).trans hw1726_2), ((HB.out.cell (World.block_lt_of_cell? w _ hw1726_3)).trans hw1726_3)⟩ (fun hHeld => ?_); refine with_tabW amqvalue_keys.tab9 amqvalue_keys.bits9 (fun HT_ HW_ => ?_)
              generalize wr.drew = w16 at BK1724 HB HR1725_3 HR1726_3 hx1725_0 hx1725_1 hx1725_2 hx1725_3 hx1726_0 hx1726_1 hx1726_2 hx1726_3 hHeld ⊢
              refine pure_ (i := 0) (N := some 20) (v := ?_) (a' := ?_) #[true, false, false, false, false, false, false, false, false, false, false] rfl rfl (any_of HT_.out (by kernel_rfl)) (fun _ _ _ h => h) (Or.inl ⟨by rfl, ?_⟩) ?_ ?_
              rotate_left
              ·intro w'
               go_simp
               with_reducible rfl
              rotate_left
              ·simp only [Act.put, List.setIfInBounds_toArray, List.set_cons_zero, List.set_cons_succ, i64_w, i32_w]
               rfl
              refine pure_ (i := 2) (N := some 22) (v := ?_) (a' := ?_) #[true, false, true, false, false, false, false, false, false, false, false] rfl rfl (any_of HT_.out (by kernel_rfl)) (fun _ _ _ h => h) (Or.inl ⟨by rfl, ?_⟩) ?_ ?_
              rotate_left
              ·intro w'
               go_simp
               with_reducible rfl
              rotate_left
              ·simp only [Act.put, List.setIfInBounds_toArray, List.set_cons_zero, List.set_cons_succ, i64_w, i32_w]
               rfl
              refine pure_ (i := 5) (N := some 25) (v := ?_) (a' := ?_) #[true, false, true, false, false, true, false, false, false, false, false] rfl rfl (any_of HT_.out (by kernel_rfl)) (fun _ _ _ h => h) (Or.inl ⟨by rfl, ?_⟩) ?_ ?_
              rotate_left
              ·intro w'
               go_simp
               with_reducible rfl
              rotate_left
              ·simp only [Act.put, List.setIfInBounds_toArray, List.set_cons_zero, List.set_cons_succ, i64_w, i32_w]
               rfl
              refine pure_ (i := 7) (N := some 27) (v := ?_) (a' := ?_) #[true, false, true, false, false, true, false, true, false, false, false] rfl rfl (any_of HT_.out (by kernel_rfl)) (fun _ _ _ h => h) (Or.inl ⟨by rfl, ?_⟩) ?_ ?_
              rotate_left
              ·intro w'
               go_simp
               with_reducible rfl
              rotate_left
              ·simp only [Act.put, List.setIfInBounds_toArray, List.set_cons_zero, List.set_cons_succ, i64_w, i32_w]
               rfl
              refine take_ (i := 1) (N := some 21) (v := ?_) (a' := ?_) #[true, true, true, false, false, true, false, true, false, false, false] rfl rfl (take_ofW HT_.out HW_.out (by kernel_rfl)) (fun _ _ _ h => h) (Or.inl ⟨by rfl, ?_⟩) hHeld ?_ ?_
              rotate_left
              ·rintro w' ⟨s0, s1, s2, s3, s4, s5, s6, s7, s8, s9, s10, s11⟩
               go_simp
               with_reducible rfl
              rotate_left
              ·simp only [Act.put, List.setIfInBounds_toArray, List.set_cons_zero, List.set_cons_succ, i64_w, i32_w]
               rfl
              refine pure_ (i := 3) (N := some 23) (v := ?_) (a' := ?_) #[true, true, true, true, false, true, false, true, false, false, false] rfl rfl (any_of HT_.out (by kernel_rfl)) (fun _ _ _ h => h) (Or.inl ⟨by rfl, ?_⟩) ?_ ?_
              rotate_left
              ·intro w'
               go_simp
               with_reducible rfl
              rotate_left
              ·simp only [Act.put, List.setIfInBounds_toArray, List.set_cons_zero, List.set_cons_succ, i64_w, i32_w]
               rfl
              refine take_ (i := 4) (N := some 24) (v := ?_) (a' := ?_) #[true, true, true, true, true, true, false, true, false, false, false] rfl rfl (take_ofW HT_.out HW_.out (by kernel_rfl)) (fun _ _ _ h => h) (Or.inl ⟨by rfl, ?_⟩) hHeld ?_ ?_
              rotate_left
              ·rintro w' ⟨s0, s1, s2, s3, s4, s5, s6, s7, s8, s9, s10, s11⟩
               go_simp
               with_reducible rfl
              rotate_left
              ·simp only [Act.put, List.setIfInBounds_toArray, List.set_cons_zero, List.set_cons_succ, i64_w, i32_w]
               rfl
              refine take_ (i := 6) (N := some 26) (v := ?_) (a' := ?_) #[true, true, true, true, true, true, true, true, false, false, false] rfl rfl (take_ofW HT_.out HW_.out (by kernel_rfl)) (fun _ _ _ h => h) (Or.inl ⟨by rfl, ?_⟩) hHeld ?_ ?_
              rotate_left
              ·rintro w' ⟨s0, s1, s2, s3, s4, s5, s6, s7, s8, s9, s10, s11⟩
               go_simp
               with_reducible rfl
              rotate_left
              ·simp only [Act.put, List.setIfInBounds_toArray, List.set_cons_zero, List.set_cons_succ, i64_w, i32_w]
               rfl
              refine pure_ (i := 8) (N := some 28) (v := ?_) (a' := ?_) #[true, true, true, true, true, true, true, true, true, false, false] rfl rfl (any_of HT_.out (by kernel_rfl)) (fun _ _ _ h => h) (Or.inl ⟨by rfl, ?_⟩) ?_ ?_
              rotate_left
              ·intro w'
               go_simp
               with_reducible rfl
              rotate_left
              ·simp only [Act.put, List.setIfInBounds_toArray, List.set_cons_zero, List.set_cons_succ, i64_w, i32_w]
               rfl
              refine take_ (i := 9) (N := some 29) (v := ?_) (a' := ?_) #[true, true, true, true, true, true, true, true, true, true, false] rfl rfl (take_ofW HT_.out HW_.out (by kernel_rfl)) (fun _ _ _ h => h) (Or.inl ⟨by rfl, ?_⟩) hHeld ?_ ?_
              rotate_left
              ·rintro w' ⟨s0, s1, s2, s3, s4, s5, s6, s7, s8, s9, s10, s11⟩
               go_simp
               with_reducible rfl
              rotate_left
              ·simp only [Act.put, List.setIfInBounds_toArray, List.set_cons_zero, List.set_cons_succ, i64_w, i32_w]
               rfl
              refine one_ (i := 10) (N := some 30) #[true, true, true, true, true, true, true, true, true, true, true] rfl rfl (one_of HT_.out (by kernel_rfl)) (by decide) (fun K hK => ?_)
              refine goes_ Tryd.func144 (by kernel_rfl) rfl #[.agg #[.int .i64 ((rdV l0_3 x3_1).kind), .int .u64 ((rdV l0_3 x3_1).n), .string ((rdV l0_3 x3_1).text), .slice A1725_3 ((rdV l0_3 x3_1).items).length c1725_3], .agg #[.int .i64 ((rdV l0_3 x4_2).kind), .int .u64 ((rdV l0_3 x4_2).n), .string ((rdV l0_3 x4_2).text), .slice A1726_3 ((rdV l0_3 x4_2).items).length c1726_3]] (by rfl) rfl rfl (by (try simp only [List.map_toArray, List.map_cons, List.map_nil]); first | done | rfl | (simp only [List.length_drop, List.length_take]; rfl)) ?_
              with_reducible refine (amqvalue_alike.calls k2 ((rdV l0_3 x3_1).kind) ((rdV l0_3 x3_1).n) ((rdV l0_3 x3_1).text) _ _ ((rdV l0_3 x3_1).items) ((rdV l0_3 x4_2).kind) ((rdV l0_3 x4_2).n) ((rdV l0_3 x4_2).text) _ _ ((rdV l0_3 x4_2).items) false _ ?side1 ?side2 ?side3 ?side4 A12.out).mono ?_
              (case side1 => repeat (first | exact (Kd.C_below HR1725_3.out HB.out) | (with_reducible refine Kd.C_alloc ?_ _) | (with_reducible refine Kd.C_drewN ?_ _) | (with_reducible refine Kd.C_drew ?_)))
              (case side2 => exact HC1725_3.out)
              (case side3 => repeat (first | exact (Kd.C_below HR1726_3.out HB.out) | (with_reducible refine Kd.C_alloc ?_ _) | (with_reducible refine Kd.C_drewN ?_ _) | (with_reducible refine Kd.C_drew ?_)))
              (case side4 => exact HC1726_3.out)
              rintro e w17 ⟨rfl, hb⟩
              refine ⟨_, rfl, ?_⟩
              have n0_ := Aside0.mk (blk_below (g := gb1724) (o := .cells #[.int .i64 a0_0, .int .u64 a0_1, .string a0_2, .slice (some ad1725) l0_3.length c0_3] 25 (0, 0)) (by (with_reducible repeat (first | refine blk_drewN ?_ _ | refine blk_drew ?_ | refine blk_alloc ?_ _)); exact BK1724.out) hb)
              have n1_ := Aside0.mk (below_step (by repeat (first | (with_reducible first | exact HB.out | apply below_alloc | apply pw_below_drewN | apply below_drew1 | refine below_set ?_ GE1724.out) | exact HB.out)) hb)
              clear BK1724
              clear HB
              have BK1724 := n0_
              have HB := n1_
              clear n0_ n1_
              (try clear hb)
              (try clear hb2)
              (try clear hk)
              (try clear hi)
              refine hK.out _ _ ⟨(blk_cell BK1724.out 0).trans rfl, (blk_cell BK1724.out 1).trans rfl, (blk_cell BK1724.out 2).trans rfl, (blk_cell BK1724.out 3).trans rfl, ((HB.out.cell (World.block_lt_of_cell? w _ hw1725_0)).trans hw1725_0), ((HB.out.cell (World.block_lt_of_cell? w _ hw1725_1)).trans hw1725_1), ((HB.out.cell (World.block_lt_of_cell? w _ hw1725_2)).trans hw1725_2), ((HB.out.cell (World.block_lt_of_cell? w _ hw1725_3)).trans hw1725_3), ((HB.out.cell (World.block_lt_of_cell? w _ hw1726_0)).trans hw1726_0), ((HB.out.cell (World.block_lt_of_cell? w _ hw1726_1)).trans hw1726_1), ((HB.out.cell (World.block_lt_of_cell? w _ hw1726_2)).trans hw1726_2), ((HB.out.cell (World.block_lt_of_cell? w _ hw1726_3)).trans hw1726_3)⟩ (fun hHeld => ?_)
              clear hK K
              refine norm_ (a' := ?_) ?_ ?_
              rotate_left
              ·show Act.put _ (some 30) _ = _
               simp only [Act.put, List.setIfInBounds_toArray, List.set_cons_zero, List.set_cons_succ, i64_w, i32_w]
               rfl
              refine done_ (done_of HT_.out (by kernel_rfl)) ?_
              try go_wp2
              go_roundg k2
              case measure => have := HK1.out; have := HK2.out; omega
              case rel => exact ⟨(wrap64 (x4_2 + 2)), (by first | rfl | (simp; done) | (simp [*]; done)), H', ⟨by have := HK1.out; have := HK2.out; omega⟩, ⟨by (with_reducible repeat (first | refine blk_drewN ?_ _ | refine blk_drew ?_ | refine blk_alloc ?_ _)); exact BK1724.out⟩, ⟨by repeat (first | (with_reducible first | exact HB.out | apply below_alloc | apply pw_below_drewN | apply below_drew1 | refine below_set ?_ GE1724.out) | exact HB.out)⟩⟩
            ·rw [if_neg c11] at H
             exact absurd H (by simp)
           ·rw [if_neg c10] at H
            exact absurd H (by simp)
          ·rw [if_neg c9] at H
           exact absurd H (by simp)
         ·rw [if_neg c8] at H
          exact absurd H (by simp)
        ·rw [if_neg c7] at H
         have c7b0 : decide (x4_2 < x3_1) = false := decide_eq_false c7
         clear c7
         have H' := Aside0.mk H
         clear H
         go_wp2
         go_roundg k2
         case measure => have := HK1.out; have := HK2.out; omega
         case rel => exact ⟨(wrap64 (x3_1 + 2)), (by first | rfl | (simp; done) | (simp [*]; done)), H', ⟨by have := HK1.out; have := HK2.out; omega⟩, ⟨by (with_reducible repeat (first | refine blk_drewN ?_ _ | refine blk_drew ?_ | refine blk_alloc ?_ _)); exact BK1724.out⟩, ⟨by repeat (first | (with_reducible first | exact HB.out | apply below_alloc | apply pw_below_drewN | apply below_drew1 | refine below_set ?_ GE1724.out) | exact HB.out)⟩⟩
     ·rw [if_neg c5] at H
      have c5b0 : decide (x3_1 < (l0_3.length : Int)) = false := decide_eq_false c5
      clear c5
      obtain rfl := Option.some.inj H
      have hcz18_0 : wr.cell? ⟨gb1724, 0, none⟩ = some (.int .i64 a0_0) := (blk_cell BK1724.out 0).trans rfl
      have hcz18_1 : wr.cell? ⟨gb1724, 1, none⟩ = some (.int .u64 a0_1) := (blk_cell BK1724.out 1).trans rfl
      have hcz18_2 : wr.cell? ⟨gb1724, 2, none⟩ = some (.string a0_2) := (blk_cell BK1724.out 2).trans rfl
      have hcz18_3 : wr.cell? ⟨gb1724, 3, none⟩ = some (.slice A0_3 l0_3.length c0_3) := (blk_cell BK1724.out 3).trans rfl
      have hfz18_0 := blk_frozen BK1724.out 0
      have hfz18_1 := blk_frozen BK1724.out 1
      have hfz18_2 := blk_frozen BK1724.out 2
      have hfz18_3 := blk_frozen BK1724.out 3
      go_wp2
      go_ret
      exact ⟨by first | rfl | (simp [errW_none, errW_some] <;> rfl) | (simp [*, errW_none, errW_some] <;> rfl), by repeat (first | (with_reducible first | exact HB.out | apply below_alloc | apply pw_below_drewN | apply below_drew1 | refine below_set ?_ GE1724.out) | exact HB.out)⟩
  ·rw [if_neg c2] at H
   have c2b0 : (a0_0 == 23) = false := beq_eq_false_iff_ne.mpr c2
   have c2b1 : (a0_0 != 23) = true := bne_iff_ne.mpr c2
   obtain rfl := Option.some.inj H
   go_enter Tryd.func111, Tryd.ntmps111
   go_wp2_with (first | ((with_reducible refine gate_dst (N := 1) rfl ?_); refine box_event ?hg (N := 1) ?hd (cs := #[.int .i64 a0_0, .int .u64 a0_1, .string a0_2, .slice A0_3 l0_3.length c0_3]) (t := 25) ?hr ?_; (case hd => rfl); (case hg => rfl); (case hr => first | (go_simp; done) | (go_simp; rfl)); intro gb1724 hg w19 hbox hb; have n0_ := Aside0.mk (below_step (by repeat (first | (with_reducible first | exact HB.out | apply below_alloc | apply pw_below_drewN | apply below_drew1) | exact HB.out)) hb); have n1_ := Aside0.mk (hbox); have n2_ := Aside0.mk ((by rw [hg]; exact (below_size (by repeat (first | (with_reducible first | exact HB.out | apply below_alloc | apply pw_below_drewN | apply below_drew1) | exact HB.out))) : w.heap.size ≤ gb1724)); have n3_ := Aside0.mk ((by rw [hg]; exact (below_size (by repeat (first | (with_reducible first | exact HB.out | apply below_alloc | apply pw_below_drewN | apply below_drew1) | exact HB.out))) : w.heap.size ≤ gb1724)); clear HB; have HB := n0_; have BK1724 := n1_; have GW1724 := n2_; have GE1724 := n3_; clear n0_ n1_ n2_ n3_; clear hb hbox hg; have hcz20_0 : w19.cell? ⟨gb1724, 0, none⟩ = some (.int .i64 a0_0) := (blk_cell BK1724.out 0).trans rfl; have hcz20_1 : w19.cell? ⟨gb1724, 1, none⟩ = some (.int .u64 a0_1) := (blk_cell BK1724.out 1).trans rfl; have hcz20_2 : w19.cell? ⟨gb1724, 2, none⟩ = some (.string a0_2) := (blk_cell BK1724.out 2).trans rfl; have hcz20_3 : w19.cell? ⟨gb1724, 3, none⟩ = some (.slice A0_3 l0_3.length c0_3) := (blk_cell BK1724.out 3).trans rfl; have hfz20_0 := blk_frozen BK1724.out 0; have hfz20_1 := blk_frozen BK1724.out 1; have hfz20_2 := blk_frozen BK1724.out 2; have hfz20_3 := blk_frozen BK1724.out 3))
   go_ret
   exact ⟨by first | rfl | (simp [errW_none, errW_some] <;> rfl) | (simp [*, errW_none, errW_some] <;> rfl), by repeat (first | (with_reducible first | exact HB.out | apply below_alloc | apply pw_below_drewN | apply below_drew1 | refine below_set ?_ GE1724.out) | exact HB.out)⟩
set_option maxHeartbeats 8000000 in
set_option maxRecDepth 100000 in
theorem amqvalue_mostRight.calls (a0 : Int) (r : Bool) (w : World) (h : amqvalue_mostRight.f a0 = some r) :
    Calls Tryd.prog 93 #[.int .i64 a0] w fun e w' => e = .returned (.bool r) ∧ Drawn0 w w' := by
  have H : (if a0 ≥ 0 then (some (decide (a0 ≤ 32))) else (some false)) = some r := h
  clear h
  by_cases c2 : a0 ≥ 0
  ·rw [if_pos c2] at H
   have c2b0 : decide (0 ≤ a0) = true := decide_eq_true c2
   clear c2
   obtain rfl := Option.some.inj H
   go_enter Tryd.func93, Tryd.ntmps93
   go_wp2
   go_ret
   exact ⟨by first | rfl | (simp; done) | (simp [*]; done), by repeat (first | exact Drawn0.refl _ | apply Drawn0.step)⟩
  ·rw [if_neg c2] at H
   have c2b0 : decide (0 ≤ a0) = false := decide_eq_false c2
   clear c2
   obtain rfl := Option.some.inj H
   go_enter Tryd.func93, Tryd.ntmps93
   go_wp2
   go_ret
   exact ⟨by first | rfl | (simp; done) | (simp [*]; done), by repeat (first | exact Drawn0.refl _ | apply Drawn0.step)⟩
end Go.Proofs.YtekpofpgkokoiaaDoor.Q
