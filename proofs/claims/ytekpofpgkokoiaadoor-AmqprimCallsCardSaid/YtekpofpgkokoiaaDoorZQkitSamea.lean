/- A part of this claim: what its theorem leans on. -/
import Derived.Test.YtekpofpgkokoiaaDoorZQ0
import Derived.Test.YtekpofpgkokoiaaDoorZZz
import Derived.Test.YtekpofpgkokoiaaDoorZQkitSameaD
namespace Go.Proofs.YtekpofpgkokoiaaDoor.Q
open Go.RowKit Go.Proofs.YtekpofpgkokoiaaDoor.M Go.Proofs.YtekpofpgkokoiaaDoorW.PrintWords Go.Proofs.YtekpofpgkokoiaaDoorW.PrintLast Go.Proofs.YtekpofpgkokoiaaDoorW.PrintMore
attribute [local go_sem] max2_int min2_int max_two min_two max_three min_three max_four min_four
set_option linter.unusedVariables false
set_option linter.unusedSimpArgs false
def polyglotkit_SameValue.T6 : Bool × List (List Nat × List Nat) := (true, [([], []), ([0], [0]), ([], []), ([1, 2], [1, 2]), ([3], [3]), ([], []), ([5], [5]), ([], []), ([6, 7], [6, 7]), ([8], [8]), ([4, 9], [4, 9]), ([10], [10])])
def polyglotkit_SameValue.B6 : List Nat := [0, 1, 0, 7, 15, 0, 32, 0, 224, 480, 1023, 2047]
theorem polyglotkit_SameValue.tab6 : rtab .any (opsOf Tryd.f26 6) = polyglotkit_SameValue.T6 := by kernel_rfl
theorem polyglotkit_SameValue.bits6 : waitsOk polyglotkit_SameValue.T6.2 polyglotkit_SameValue.B6 = true := by kernel_rfl
set_option maxHeartbeats 8000000 in
set_option maxRecDepth 100000 in
theorem polyglotkit_SameValue.calls (k : Nat) : ∀ (a0_0 : Int) (a0_1 : Int) (a0_2 : ByteArray) (A0_3 : Option Addr) (c0_3 : Nat) (l0_3 : List (Vl)) (a1_0 : Int) (a1_1 : Int) (a1_2 : ByteArray) (A1_3 : Option Addr) (c1_3 : Nat) (l1_3 : List (Vl)) (r : Bool) (w : World) (hr0_3 : Kd.C kV w A0_3 l0_3.length l0_3) (hc0_3 : l0_3.length ≤ c0_3) (hr1_3 : Kd.C kV w A1_3 l1_3.length l1_3) (hc1_3 : l1_3.length ≤ c1_3) (h : polyglotkit_SameValue.f k a0_0 a0_1 a0_2 l0_3 a1_0 a1_1 a1_2 l1_3 = some r),
    Calls Tryd.prog 26 #[.agg #[.int .i64 a0_0, .int .u64 a0_1, .string a0_2, .slice A0_3 l0_3.length c0_3], .agg #[.int .i64 a1_0, .int .u64 a1_1, .string a1_2, .slice A1_3 l1_3.length c1_3]] w fun e w' => e = .returned (.bool r) ∧ Below w.heap.size w w' := by
  induction k using Nat.strongRecOn with
  | _ k ih =>
  intro a0_0 a0_1 a0_2 A0_3 c0_3 l0_3 a1_0 a1_1 a1_2 A1_3 c1_3 l1_3 r w hr0_3 hc0_3 hr1_3 hc1_3 h
  cases k with
  | zero => exact absurd h (by simp [polyglotkit_SameValue.f])
  | succ k =>
  simp only [polyglotkit_SameValue.f] at h
  have hu25 := Tryd.underlying25
  have HR0_3 := Aside0.mk hr0_3
  have HC0_3 := Aside0.mk hc0_3
  clear hr0_3 hc0_3
  have HR1_3 := Aside0.mk hr1_3
  have HC1_3 := Aside0.mk hc1_3
  clear hr1_3 hc1_3
  have HB := Aside0.mk (Below.refl w.heap.size w)
  have H : (if a0_0 = a1_0 then (if a0_1 = a1_1 then (if a0_2.toList = a1_2.toList then (polyglotkit_SameValue.j0 k ((l0_3.length : Int) != (l1_3.length : Int)) a0_0 a0_1 a0_2 l0_3 a1_0 a1_1 a1_2 l1_3) else (polyglotkit_SameValue.j0 k true a0_0 a0_1 a0_2 l0_3 a1_0 a1_1 a1_2 l1_3)) else (polyglotkit_SameValue.j0 k true a0_0 a0_1 a0_2 l0_3 a1_0 a1_1 a1_2 l1_3)) else (polyglotkit_SameValue.j0 k true a0_0 a0_1 a0_2 l0_3 a1_0 a1_1 a1_2 l1_3)) = some r := h
  clear h
  have HC3 := Aside0.mk H
  clear H
  go_enter Tryd.func26, Tryd.ntmps26
  go_upto_region 1 with (first | ((with_reducible refine gate_dst (N := 2) rfl ?_); (try (refine gate_guard (by rfl) ?_; dsimp only)); refine box_event rfl (N := 2) rfl (cs := #[.int .i64 a0_0, .int .u64 a0_1, .string a0_2, .slice A0_3 l0_3.length c0_3]) (t := 25) zh ?_; intro gb131 hg w4 hbox hb; have BK131 := Aside0.mk (hbox); have GW131 := Aside0.mk ((zge (w := w) hg)); have GE131 := Aside0.mk ((zge (w := w) hg)); replace HB := Aside0.mk (below_step zb hb); clear hb hbox hg) | ((with_reducible refine gate_dst (N := 3) rfl ?_); (try (refine gate_guard (by rfl) ?_; dsimp only)); refine box_event rfl (N := 3) rfl (cs := #[.int .i64 a1_0, .int .u64 a1_1, .string a1_2, .slice A1_3 l1_3.length c1_3]) (t := 25) zh ?_; intro gb132 hg w5 hbox hb; have BK132 := Aside0.mk (hbox); have GW132 := Aside0.mk ((zge (w := w) hg)); have GE132 := Aside0.mk ((zge (w := w) hg)); have NB131_132 := Aside0.mk ((znl BK131.out hg)); have NB132_131 := Aside0.mk ((zng BK131.out hg)); replace BK131 := Aside0.mk (zbb BK131.out hb); replace HB := Aside0.mk (below_step zb hb); clear hb hbox hg))
  (try simp only [Act.put, List.setIfInBounds_toArray, List.set_cons_zero, List.set_cons_succ])
  go_cut [33] (fun v33 wc => ∃ (kq : Nat) (x33_2 : Bool), v33 = .bool x33_2 ∧ Aside0 (polyglotkit_SameValue.j0 kq x33_2 a0_0 a0_1 a0_2 l0_3 a1_0 a1_1 a1_2 l1_3 = some r) ∧ Aside0 (kq ≤ k) ∧ Aside0 (wc.heap[gb131]? = some (.cells #[.int .i64 a0_0, .int .u64 a0_1, .string a0_2, (.slice A0_3 l0_3.length c0_3)] 25 (0, 0))) ∧ Aside0 (wc.heap[gb132]? = some (.cells #[.int .i64 a1_0, .int .u64 a1_1, .string a1_2, (.slice A1_3 l1_3.length c1_3)] 25 (0, 0))) ∧ Aside0 (Below w.heap.size w wc))
  case first =>
   have H := HC3.out
   clear HC3
   by_cases c6 : a0_0 = a1_0
   ·rw [if_pos c6] at H
    have c6b0 : (a0_0 == a1_0) = true := beq_iff_eq.mpr c6
    have c6b1 : (a0_0 != a1_0) = false := bne_eq_false_iff_eq.mpr c6
    clear c6
    (first | rw [c6b0] | (simp only [i64_w, i32_w]; rw [c6b0]) | skip)
    by_cases c7 : a0_1 = a1_1
    ·rw [if_pos c7] at H
     have c7b0 : (a0_1 == a1_1) = true := beq_iff_eq.mpr c7
     have c7b1 : (a0_1 != a1_1) = false := bne_eq_false_iff_eq.mpr c7
     clear c7
     by_cases c8 : a0_2.toList = a1_2.toList
     ·rw [if_pos c8] at H
      have c8b0 : (a0_2.toList == a1_2.toList) = true := beq_iff_eq.mpr c8
      have c8b1 : (a0_2.toList != a1_2.toList) = false := bne_eq_false_iff_eq.mpr c8
      clear c8
      have H' := Aside0.mk H
      clear H
      have hnb9 := NB131_132.out
      have hnc9 := NB132_131.out
      obtain ⟨hcz10_0, hcz10_1, hcz10_2, hcz10_3, hfz10_0, hfz10_1, hfz10_2, hfz10_3⟩ := cz4 BK131.out
      obtain ⟨hcz11_0, hcz11_1, hcz11_2, hcz11_3, hfz11_0, hfz11_1, hfz11_2, hfz11_3⟩ := cz4 BK132.out
      go_wp2
      go_meet
      case rel => exact ⟨_, (((l0_3.length : Int) != (l1_3.length : Int))), zt, H', ⟨zo⟩, ⟨zk BK131.out⟩, ⟨zk BK132.out⟩, ⟨zb⟩⟩
     ·rw [if_neg c8] at H
      have c8b0 : (a0_2.toList == a1_2.toList) = false := beq_eq_false_iff_ne.mpr c8
      have c8b1 : (a0_2.toList != a1_2.toList) = true := bne_iff_ne.mpr c8
      have H' := Aside0.mk H
      clear H
      have hnb12 := NB131_132.out
      have hnc12 := NB132_131.out
      obtain ⟨hcz13_0, hcz13_1, hcz13_2, hcz13_3, hfz13_0, hfz13_1, hfz13_2, hfz13_3⟩ := cz4 BK131.out
      obtain ⟨hcz14_0, hcz14_1, hcz14_2, hcz14_3, hfz14_0, hfz14_1, hfz14_2, hfz14_3⟩ := cz4 BK132.out
      go_wp2
      go_meet
      case rel => exact ⟨_, (true), zt, H', ⟨zo⟩, ⟨zk BK131.out⟩, ⟨zk BK132.out⟩, ⟨zb⟩⟩
    ·rw [if_neg c7] at H
     have c7b0 : (a0_1 == a1_1) = false := beq_eq_false_iff_ne.mpr c7
     have c7b1 : (a0_1 != a1_1) = true := bne_iff_ne.mpr c7
     have H' := Aside0.mk H
     clear H
     have hnb15 := NB131_132.out
     have hnc15 := NB132_131.out
     obtain ⟨hcz16_0, hcz16_1, hcz16_2, hcz16_3, hfz16_0, hfz16_1, hfz16_2, hfz16_3⟩ := cz4 BK131.out
     obtain ⟨hcz17_0, hcz17_1, hcz17_2, hcz17_3, hfz17_0, hfz17_1, hfz17_2, hfz17_3⟩ := cz4 BK132.out
     go_wp2
     go_meet
     case rel => exact ⟨_, (true), zt, H', ⟨zo⟩, ⟨zk BK131.out⟩, ⟨zk BK132.out⟩, ⟨zb⟩⟩
   ·rw [if_neg c6] at H
    have c6b0 : (a0_0 == a1_0) = false := beq_eq_false_iff_ne.mpr c6
    have c6b1 : (a0_0 != a1_0) = true := bne_iff_ne.mpr c6
    (first | rw [c6b0] | (simp only [i64_w, i32_w]; rw [c6b0]) | skip)
    have H' := Aside0.mk H
    clear H
    have hnb18 := NB131_132.out
    have hnc18 := NB132_131.out
    obtain ⟨hcz19_0, hcz19_1, hcz19_2, hcz19_3, hfz19_0, hfz19_1, hfz19_2, hfz19_3⟩ := cz4 BK131.out
    obtain ⟨hcz20_0, hcz20_1, hcz20_2, hcz20_3, hfz20_0, hfz20_1, hfz20_2, hfz20_3⟩ := cz4 BK132.out
    go_wp2
    go_meet
    case rel => exact ⟨_, (true), zt, H', ⟨zo⟩, ⟨zk BK131.out⟩, ⟨zk BK132.out⟩, ⟨zb⟩⟩
  case rest =>
   clear HC3
   obtain ⟨kq, x33_2, rfl, HA, HJ2, BK131, BK132, HB⟩ := hcut
   cases kq with
   | zero => exact absurd HA.out (by simp [polyglotkit_SameValue.j0])
   | succ kj2 =>
    have H := HA.out
    clear HA
    simp only [polyglotkit_SameValue.j0] at H
    by_cases c21 : x33_2 = true
    ·subst c21
     replace H := zyes H
     obtain rfl := Option.some.inj H
     go_wp2
     go_ret
     exact ⟨ze, zb⟩
    ·replace c21 := Bool.eq_false_iff.mpr c21
     subst c21
     replace H := zno H
     have H' := Aside0.mk H
     clear H
     go_wp2
     go_loopg [5] kj2 (fun kq v5 w' => ∃ (x5_2 : Int), v5 = .int .i64 x5_2 ∧ Aside0 (polyglotkit_SameValue.l0 kq x5_2 a0_0 a0_1 a0_2 l0_3 a1_0 a1_1 a1_2 l1_3 = some r) ∧ Aside0 (kq ≤ kj2) ∧ Aside0 (w'.heap[gb131]? = some (.cells #[.int .i64 a0_0, .int .u64 a0_1, .string a0_2, (.slice A0_3 l0_3.length c0_3)] 25 (0, 0))) ∧ Aside0 (w'.heap[gb132]? = some (.cells #[.int .i64 a1_0, .int .u64 a1_1, .string a1_2, (.slice A1_3 l1_3.length c1_3)] 25 (0, 0))) ∧ Aside0 (Below w.heap.size w w'))
     case atStart => exact ⟨(0), zt, H', ⟨Nat.le_refl _⟩, ⟨zk BK131.out⟩, ⟨zk BK132.out⟩, ⟨zb⟩⟩
     case round =>
      clear H'
      try clear c21
      obtain ⟨x5_2, rfl, HA, HK2, BK131, BK132, HB⟩ := hrel
      cases gk with
      | zero => exact absurd HA.out (by simp [polyglotkit_SameValue.l0])
      | succ k2 =>
       have H := HA.out
       clear HA
       simp only [polyglotkit_SameValue.l0] at H
       by_cases c22 : x5_2 < (l0_3.length : Int)
       ·rw [if_pos c22] at H
        have c22b0 : decide (x5_2 < (l0_3.length : Int)) = true := decide_eq_true c22
        clear c22
        by_cases c23 : 0 ≤ x5_2
        ·rw [if_pos c23] at H
         have c23b0 : decide (0 ≤ x5_2) = true := decide_eq_true c23
         clear c23
         by_cases c24 : x5_2 < (l1_3.length : Int)
         ·rw [if_pos c24] at H
          have c24b0 : decide (x5_2 < (l1_3.length : Int)) = true := decide_eq_true c24
          clear c24
          obtain ⟨t135, A25, H⟩ := zbd H
          by_cases c26 : t135 = true
          ·subst c26
           replace H := zyes H
           have H' := Aside0.mk H
           clear H
           have hnb27 := NB131_132.out
           have hnc27 := NB132_131.out
           obtain ⟨hcz28_0, hcz28_1, hcz28_2, hcz28_3, hfz28_0, hfz28_1, hfz28_2, hfz28_3⟩ := cz4 BK131.out
           try go_wp2
           have n0_ := Aside0.mk (blk_drew BK131.out)
           have n1_ := Aside0.mk (blk_drew BK132.out)
           have n2_ := Aside0.mk (below_drew1 HB.out)
           clear BK131
           clear BK132
           clear HB
           have BK131 := n0_
           have BK132 := n1_
           have HB := n2_
           clear n0_ n1_ n2_
           have p133 : 0 ≤ (x5_2 : Int) := of_decide_eq_true (by first | (with_reducible assumption) | assumption)
           have q133 : x5_2 < (l0_3.length : Int) := of_decide_eq_true (by first | (with_reducible assumption) | assumption)
           obtain ⟨ad133, A133_3, c133_3, e133, hx133_0, hx133_1, hx133_2, hx133_3, hl133_3, hi133_3⟩ := atV HR0_3.out x5_2 p133 q133
           have hw133_3 := hx133_3
           have hw133_2 := hx133_2
           have hw133_1 := hx133_1
           have hw133_0 := hx133_0
           cases e133
           replace hx133_0 := (HB.out.cell (World.block_lt_of_cell? w _ hx133_0)).trans hx133_0
           replace hx133_1 := (HB.out.cell (World.block_lt_of_cell? w _ hx133_1)).trans hx133_1
           replace hx133_2 := (HB.out.cell (World.block_lt_of_cell? w _ hx133_2)).trans hx133_2
           replace hx133_3 := (HB.out.cell (World.block_lt_of_cell? w _ hx133_3)).trans hx133_3
           have HR133_3 := Aside0.mk hi133_3
           have HC133_3 := Aside0.mk hl133_3
           clear hi133_3 hl133_3
           replace p133 := eq_true p133
           replace q133 := eq_true q133
           have p134 : 0 ≤ (x5_2 : Int) := of_decide_eq_true (by first | (with_reducible assumption) | assumption)
           have q134 : x5_2 < (l1_3.length : Int) := of_decide_eq_true (by first | (with_reducible assumption) | assumption)
           obtain ⟨ad134, A134_3, c134_3, e134, hx134_0, hx134_1, hx134_2, hx134_3, hl134_3, hi134_3⟩ := atV HR1_3.out x5_2 p134 q134
           have hw134_3 := hx134_3
           have hw134_2 := hx134_2
           have hw134_1 := hx134_1
           have hw134_0 := hx134_0
           cases e134
           replace hx134_0 := (HB.out.cell (World.block_lt_of_cell? w _ hx134_0)).trans hx134_0
           replace hx134_1 := (HB.out.cell (World.block_lt_of_cell? w _ hx134_1)).trans hx134_1
           replace hx134_2 := (HB.out.cell (World.block_lt_of_cell? w _ hx134_2)).trans hx134_2
           replace hx134_3 := (HB.out.cell (World.block_lt_of_cell? w _ hx134_3)).trans hx134_3
           have HR134_3 := Aside0.mk hi134_3
           have HC134_3 := Aside0.mk hl134_3
           clear hi134_3 hl134_3
           replace p134 := eq_true p134
           replace q134 := eq_true q134
           refine start_ (n := 12) (S := fun w' => w'.cell? ⟨gb131, 0, none⟩ = some (.int .i64 a0_0) ∧ w'.cell? ⟨gb131, 1, none⟩ = some (.int .u64 a0_1) ∧ w'.cell? ⟨gb131, 2, none⟩ = some (.string a0_2) ∧ w'.cell? ⟨gb131, 3, none⟩ = some (.slice (some ad133) l0_3.length c0_3) ∧ w'.cell? ⟨gb132, 0, none⟩ = some (.int .i64 a1_0) ∧ w'.cell? ⟨gb132, 1, none⟩ = some (.int .u64 a1_1) ∧ w'.cell? ⟨gb132, 2, none⟩ = some (.string a1_2) ∧ w'.cell? ⟨gb132, 3, none⟩ = some (.slice (some ad134) l1_3.length c1_3) ∧ w'.cell? (ad133.add ((x5_2).toNat * 4)) = some (.int .i64 ((rdV l0_3 x5_2).kind)) ∧ w'.cell? ⟨(ad133.add ((x5_2).toNat * 4)).block, (ad133.add ((x5_2).toNat * 4)).off + 1, none⟩ = some (.int .u64 ((rdV l0_3 x5_2).n)) ∧ w'.cell? ⟨(ad133.add ((x5_2).toNat * 4)).block, (ad133.add ((x5_2).toNat * 4)).off + 2, none⟩ = some (.string ((rdV l0_3 x5_2).text)) ∧ w'.cell? ⟨(ad133.add ((x5_2).toNat * 4)).block, (ad133.add ((x5_2).toNat * 4)).off + 3, none⟩ = some (.slice A133_3 ((rdV l0_3 x5_2).items).length c133_3) ∧ w'.cell? (ad134.add ((x5_2).toNat * 4)) = some (.int .i64 ((rdV l1_3 x5_2).kind)) ∧ w'.cell? ⟨(ad134.add ((x5_2).toNat * 4)).block, (ad134.add ((x5_2).toNat * 4)).off + 1, none⟩ = some (.int .u64 ((rdV l1_3 x5_2).n)) ∧ w'.cell? ⟨(ad134.add ((x5_2).toNat * 4)).block, (ad134.add ((x5_2).toNat * 4)).off + 2, none⟩ = some (.string ((rdV l1_3 x5_2).text)) ∧ w'.cell? ⟨(ad134.add ((x5_2).toNat * 4)).block, (ad134.add ((x5_2).toNat * 4)).off + 3, none⟩ = some (.slice A134_3 ((rdV l1_3 x5_2).items).length c134_3)) (ds := []) (bm 12 0) (by kernel_rfl) rfl rfl ⟨(blk_cell BK131.out 0).trans rfl, (blk_cell BK131.out 1).trans rfl, (blk_cell BK131.out 2).trans rfl, (blk_cell BK131.out 3).trans rfl, (blk_cell BK132.out 0).trans rfl, (blk_cell BK132.out 1).trans rfl, (blk_cell BK132.out 2).trans rfl, (blk_cell BK132.out 3).trans rfl, ((HB.out.cell (World.block_lt_of_cell? w _ hw133_0)).trans hw133_0), ((HB.out.cell (World.block_lt_of_cell? w _ hw133_1)).trans hw133_1), ((HB.out.cell (World.block_lt_of_cell? w _ hw133_2)).trans hw133_2), ((HB.out.cell (World.block_lt_of_cell? w _ hw133_3)).trans hw133_3), ((HB.out.cell (World.block_lt_of_cell? w _ hw134_0)).trans hw134_0), ((HB.out.cell (World.block_lt_of_cell? w _ hw134_1)).trans hw134_1), ((HB.out.cell (World.block_lt_of_cell? w _ hw134_2)).trans hw134_2), ((HB.out.cell (World.block_lt_of_cell? w _ hw134_3)).trans hw134_3)⟩ (fun hHeld => ?_); refine with_tabW polyglotkit_SameValue.tab6 polyglotkit_SameValue.bits6 (fun HT_ HW_ => ?_)
           generalize wr.drew = w29 at BK131 BK132 HB HR133_3 HR134_3 hx133_0 hx133_1 hx133_2 hx133_3 hx134_0 hx134_1 hx134_2 hx134_3 hHeld ⊢
           refine pu 0 (some 41) (bm 12 1) (h := ?_)
           refine pu 2 (some 43) (bm 12 5) (h := ?_)
           refine pu 5 (some 46) (bm 12 37) (h := ?_)
           refine pu 7 (some 48) (bm 12 165) (h := ?_)
           refine tk 1 (some 42) (bm 12 167) hHeld (h := ?_)
           refine pu 3 (some 44) (bm 12 175) (h := ?_)
           refine tk 4 (some 45) (bm 12 191) hHeld (h := ?_)
           refine tk 6 (some 47) (bm 12 255) hHeld (h := ?_)
           refine pu 8 (some 49) (bm 12 511) (h := ?_)
           refine tk 9 (some 50) (bm 12 1023) hHeld (h := ?_)
           refine one_ (i := 10) (N := some 51) (bm 12 2047) rfl rfl (one_of HT_.out (by kernel_rfl)) (by decide) (fun K hK => ?_)
           refine goes_ Tryd.func26 (by kernel_rfl) rfl #[.agg #[.int .i64 ((rdV l0_3 x5_2).kind), .int .u64 ((rdV l0_3 x5_2).n), .string ((rdV l0_3 x5_2).text), .slice A133_3 ((rdV l0_3 x5_2).items).length c133_3], .agg #[.int .i64 ((rdV l1_3 x5_2).kind), .int .u64 ((rdV l1_3 x5_2).n), .string ((rdV l1_3 x5_2).text), .slice A134_3 ((rdV l1_3 x5_2).items).length c134_3]] (by rfl) rfl rfl za ?_
           with_reducible refine (ih k2 (by have := HJ2.out; have := HK2.out; omega) ((rdV l0_3 x5_2).kind) ((rdV l0_3 x5_2).n) ((rdV l0_3 x5_2).text) _ _ ((rdV l0_3 x5_2).items) ((rdV l1_3 x5_2).kind) ((rdV l1_3 x5_2).n) ((rdV l1_3 x5_2).text) _ _ ((rdV l1_3 x5_2).items) true _ ?side1 ?side2 ?side3 ?side4 A25.out).mono ?_
           (case side1 => repeat (first | exact (Kd.C_below HR133_3.out HB.out) | (with_reducible refine Kd.C_alloc ?_ _) | (with_reducible refine Kd.C_drewN ?_ _) | (with_reducible refine Kd.C_drew ?_)))
           (case side2 => exact HC133_3.out)
           (case side3 => repeat (first | exact (Kd.C_below HR134_3.out HB.out) | (with_reducible refine Kd.C_alloc ?_ _) | (with_reducible refine Kd.C_drewN ?_ _) | (with_reducible refine Kd.C_drew ?_)))
           (case side4 => exact HC134_3.out)
           rintro e w30 ⟨rfl, hb⟩
           refine ⟨_, rfl, ?_⟩
           have n0_ := Aside0.mk (zbb BK131.out hb)
           have n1_ := Aside0.mk (zbb BK132.out hb)
           have n2_ := Aside0.mk (below_step zb hb)
           clear BK131
           clear BK132
           clear HB
           have BK131 := n0_
           have BK132 := n1_
           have HB := n2_
           clear n0_ n1_ n2_
           (try clear hb)
           (try clear hb2)
           (try clear hk)
           (try clear hi)
           refine hK.out _ _ ⟨(blk_cell BK131.out 0).trans rfl, (blk_cell BK131.out 1).trans rfl, (blk_cell BK131.out 2).trans rfl, (blk_cell BK131.out 3).trans rfl, (blk_cell BK132.out 0).trans rfl, (blk_cell BK132.out 1).trans rfl, (blk_cell BK132.out 2).trans rfl, (blk_cell BK132.out 3).trans rfl, ((HB.out.cell (World.block_lt_of_cell? w _ hw133_0)).trans hw133_0), ((HB.out.cell (World.block_lt_of_cell? w _ hw133_1)).trans hw133_1), ((HB.out.cell (World.block_lt_of_cell? w _ hw133_2)).trans hw133_2), ((HB.out.cell (World.block_lt_of_cell? w _ hw133_3)).trans hw133_3), ((HB.out.cell (World.block_lt_of_cell? w _ hw134_0)).trans hw134_0), ((HB.out.cell (World.block_lt_of_cell? w _ hw134_1)).trans hw134_1), ((HB.out.cell (World.block_lt_of_cell? w _ hw134_2)).trans hw134_2), ((HB.out.cell (World.block_lt_of_cell? w _ hw134_3)).trans hw134_3)⟩ (fun hHeld => ?_)
           clear hK K
           refine norm_ (a' := ?_) ?_ ?_
           rotate_left
           ·show Act.put _ (some 51) _ = _
            simp only [Act.put, List.setIfInBounds_toArray, List.set_cons_zero, List.set_cons_succ, i64_w, i32_w]
            rfl
           refine pu 11 (some 52) (bm 12 4095) (h := ?_)
           refine done_ (done_of HT_.out (by kernel_rfl)) ?_
           try go_wp2
           go_roundg k2
           case measure => have := HJ2.out; have := HK2.out; omega
           case rel => exact ⟨(wrap64 (x5_2 + 1)), zt, H', ⟨by have := HJ2.out; have := HK2.out; omega⟩, ⟨zk BK131.out⟩, ⟨zk BK132.out⟩, ⟨zb⟩⟩
          ·replace c26 := Bool.eq_false_iff.mpr c26
           subst c26
           replace H := zno H
           obtain rfl := Option.some.inj H
           have hnb31 := NB131_132.out
           have hnc31 := NB132_131.out
           obtain ⟨hcz32_0, hcz32_1, hcz32_2, hcz32_3, hfz32_0, hfz32_1, hfz32_2, hfz32_3⟩ := cz4 BK131.out
           try go_wp2
           have n0_ := Aside0.mk (blk_drew BK131.out)
           have n1_ := Aside0.mk (blk_drew BK132.out)
           have n2_ := Aside0.mk (below_drew1 HB.out)
           clear BK131
           clear BK132
           clear HB
           have BK131 := n0_
           have BK132 := n1_
           have HB := n2_
           clear n0_ n1_ n2_
           have p133 : 0 ≤ (x5_2 : Int) := of_decide_eq_true (by first | (with_reducible assumption) | assumption)
           have q133 : x5_2 < (l0_3.length : Int) := of_decide_eq_true (by first | (with_reducible assumption) | assumption)
           obtain ⟨ad133, A133_3, c133_3, e133, hx133_0, hx133_1, hx133_2, hx133_3, hl133_3, hi133_3⟩ := atV HR0_3.out x5_2 p133 q133
           have hw133_3 := hx133_3
           have hw133_2 := hx133_2
           have hw133_1 := hx133_1
           have hw133_0 := hx133_0
           cases e133
           replace hx133_0 := (HB.out.cell (World.block_lt_of_cell? w _ hx133_0)).trans hx133_0
           replace hx133_1 := (HB.out.cell (World.block_lt_of_cell? w _ hx133_1)).trans hx133_1
           replace hx133_2 := (HB.out.cell (World.block_lt_of_cell? w _ hx133_2)).trans hx133_2
           replace hx133_3 := (HB.out.cell (World.block_lt_of_cell? w _ hx133_3)).trans hx133_3
           have HR133_3 := Aside0.mk hi133_3
           have HC133_3 := Aside0.mk hl133_3
           clear hi133_3 hl133_3
           replace p133 := eq_true p133
           replace q133 := eq_true q133
           have p134 : 0 ≤ (x5_2 : Int) := of_decide_eq_true (by first | (with_reducible assumption) | assumption)
           have q134 : x5_2 < (l1_3.length : Int) := of_decide_eq_true (by first | (with_reducible assumption) | assumption)
           obtain ⟨ad134, A134_3, c134_3, e134, hx134_0, hx134_1, hx134_2, hx134_3, hl134_3, hi134_3⟩ := atV HR1_3.out x5_2 p134 q134
           have hw134_3 := hx134_3
           have hw134_2 := hx134_2
           have hw134_1 := hx134_1
           have hw134_0 := hx134_0
           cases e134
           replace hx134_0 := (HB.out.cell (World.block_lt_of_cell? w _ hx134_0)).trans hx134_0
           replace hx134_1 := (HB.out.cell (World.block_lt_of_cell? w _ hx134_1)).trans hx134_1
           replace hx134_2 := (HB.out.cell (World.block_lt_of_cell? w _ hx134_2)).trans hx134_2
           replace hx134_3 := (HB.out.cell (World.block_lt_of_cell? w _ hx134_3)).trans hx134_3
           have HR134_3 := Aside0.mk hi134_3
           have HC134_3 := Aside0.mk hl134_3
           clear hi134_3 hl134_3
           replace p134 := eq_true p134
           replace q134 := eq_true q134
           refine start_ (n := 12) (S := fun w' => w'.cell? ⟨gb131, 0, none⟩ = some (.int .i64 a0_0) ∧ w'.cell? ⟨gb131, 1, none⟩ = some (.int .u64 a0_1) ∧ w'.cell? ⟨gb131, 2, none⟩ = some (.string a0_2) ∧ w'.cell? ⟨gb131, 3, none⟩ = some (.slice (some ad133) l0_3.length c0_3) ∧ w'.cell? ⟨gb132, 0, none⟩ = some (.int .i64 a1_0) ∧ w'.cell? ⟨gb132, 1, none⟩ = some (.int .u64 a1_1) ∧ w'.cell? ⟨gb132, 2, none⟩ = some (.string a1_2) ∧ w'.cell? ⟨gb132, 3, none⟩ = some (.slice (some ad134) l1_3.length c1_3) ∧ w'.cell? (ad133.add ((x5_2).toNat * 4)) = some (.int .i64 ((rdV l0_3 x5_2).kind)) ∧ w'.cell? ⟨(ad133.add ((x5_2).toNat * 4)).block, (ad133.add ((x5_2).toNat * 4)).off + 1, none⟩ = some (.int .u64 ((rdV l0_3 x5_2).n)) ∧ w'.cell? ⟨(ad133.add ((x5_2).toNat * 4)).block, (ad133.add ((x5_2).toNat * 4)).off + 2, none⟩ = some (.string ((rdV l0_3 x5_2).text)) ∧ w'.cell? ⟨(ad133.add ((x5_2).toNat * 4)).block, (ad133.add ((x5_2).toNat * 4)).off + 3, none⟩ = some (.slice A133_3 ((rdV l0_3 x5_2).items).length c133_3) ∧ w'.cell? (ad134.add ((x5_2).toNat * 4)) = some (.int .i64 ((rdV l1_3 x5_2).kind)) ∧ w'.cell? ⟨(ad134.add ((x5_2).toNat * 4)).block, (ad134.add ((x5_2).toNat * 4)).off + 1, none⟩ = some (.int .u64 ((rdV l1_3 x5_2).n)) ∧ w'.cell? ⟨(ad134.add ((x5_2).toNat * 4)).block, (ad134.add ((x5_2).toNat * 4)).off + 2, none⟩ = some (.string ((rdV l1_3 x5_2).text)) ∧ w'.cell? ⟨(ad134.add ((x5_2).toNat * 4)).block, (ad134.add ((x5_2).toNat * 4)).off + 3, none⟩ = some (.slice A134_3 ((rdV l1_3 x5_2).items).length c134_3)) (ds := []) (bm 12 0) (by kernel_rfl) rfl rfl ⟨(blk_cell BK131.out 0).trans rfl, (blk_cell BK131.out 1).trans rfl, (blk_cell BK131.out 2).trans rfl, (blk_cell BK131.out 3).trans rfl, (blk_cell BK132.out 0).trans rfl, (blk_cell BK132.out 1).trans rfl, (blk_cell BK132.out 2).trans rfl, (blk_cell BK132.out 3).trans rfl, ((HB.out.cell (World.block_lt_of_cell? w _ hw133_0)).trans hw133_0), ((HB.out.cell (World.block_lt_of_cell? w _ hw133_1)).trans hw133_1), ((HB.out.cell (World.block_lt_of_cell? w _ hw133_2)).trans hw133_2), ((HB.out.cell (World.block_lt_of_cell? w _ hw133_3)).trans hw133_3), ((HB.out.cell (World.block_lt_of_cell? w _ hw134_0)).trans hw134_0), ((HB.out.cell (World.block_lt_of_cell? w _ hw134_1)).trans hw134_1), ((HB.out.cell (World.block_lt_of_cell? w _ hw134_2)).trans hw134_2), ((HB.out.cell (World.block_lt_of_cell? w _ hw134_3)).trans hw134_3)⟩ (fun hHeld => ?_); refine with_tabW polyglotkit_SameValue.tab6 polyglotkit_SameValue.bits6 (fun HT_ HW_ => ?_)
           generalize wr.drew = w33 at BK131 BK132 HB HR133_3 HR134_3 hx133_0 hx133_1 hx133_2 hx133_3 hx134_0 hx134_1 hx134_2 hx134_3 hHeld ⊢
           refine pu 0 (some 41) (bm 12 1) (h := ?_)
           refine pu 2 (some 43) (bm 12 5) (h := ?_)
           refine pu 5 (some 46) (bm 12 37) (h := ?_)
           refine pu 7 (some 48) (bm 12 165) (h := ?_)
           refine tk 1 (some 42) (bm 12 167) hHeld (h := ?_)
           refine pu 3 (some 44) (bm 12 175) (h := ?_)
           refine tk 4 (some 45) (bm 12 191) hHeld (h := ?_)
           refine tk 6 (some 47) (bm 12 255) hHeld (h := ?_)
           refine pu 8 (some 49) (bm 12 511) (h := ?_)
           refine tk 9 (some 50) (bm 12 1023) hHeld (h := ?_)
           refine one_ (i := 10) (N := some 51) (bm 12 2047) rfl rfl (one_of HT_.out (by kernel_rfl)) (by decide) (fun K hK => ?_)
           refine goes_ Tryd.func26 (by kernel_rfl) rfl #[.agg #[.int .i64 ((rdV l0_3 x5_2).kind), .int .u64 ((rdV l0_3 x5_2).n), .string ((rdV l0_3 x5_2).text), .slice A133_3 ((rdV l0_3 x5_2).items).length c133_3], .agg #[.int .i64 ((rdV l1_3 x5_2).kind), .int .u64 ((rdV l1_3 x5_2).n), .string ((rdV l1_3 x5_2).text), .slice A134_3 ((rdV l1_3 x5_2).items).length c134_3]] (by rfl) rfl rfl za ?_
           with_reducible refine (ih k2 (by have := HJ2.out; have := HK2.out; omega) ((rdV l0_3 x5_2).kind) ((rdV l0_3 x5_2).n) ((rdV l0_3 x5_2).text) _ _ ((rdV l0_3 x5_2).items) ((rdV l1_3 x5_2).kind) ((rdV l1_3 x5_2).n) ((rdV l1_3 x5_2).text) _ _ ((rdV l1_3 x5_2).items) false _ ?side1 ?side2 ?side3 ?side4 A25.out).mono ?_
           (case side1 => repeat (first | exact (Kd.C_below HR133_3.out HB.out) | (with_reducible refine Kd.C_alloc ?_ _) | (with_reducible refine Kd.C_drewN ?_ _) | (with_reducible refine Kd.C_drew ?_)))
           (case side2 => exact HC133_3.out)
           (case side3 => repeat (first | exact (Kd.C_below HR134_3.out HB.out) | (with_reducible refine Kd.C_alloc ?_ _) | (with_reducible refine Kd.C_drewN ?_ _) | (with_reducible refine Kd.C_drew ?_)))
           (case side4 => exact HC134_3.out)
           rintro e w34 ⟨rfl, hb⟩
           refine ⟨_, rfl, ?_⟩
           have n0_ := Aside0.mk (zbb BK131.out hb)
           have n1_ := Aside0.mk (zbb BK132.out hb)
           have n2_ := Aside0.mk (below_step zb hb)
           clear BK131
           clear BK132
           clear HB
           have BK131 := n0_
           have BK132 := n1_
           have HB := n2_
           clear n0_ n1_ n2_
           (try clear hb)
           (try clear hb2)
           (try clear hk)
           (try clear hi)
           refine hK.out _ _ ⟨(blk_cell BK131.out 0).trans rfl, (blk_cell BK131.out 1).trans rfl, (blk_cell BK131.out 2).trans rfl, (blk_cell BK131.out 3).trans rfl, (blk_cell BK132.out 0).trans rfl, (blk_cell BK132.out 1).trans rfl, (blk_cell BK132.out 2).trans rfl, (blk_cell BK132.out 3).trans rfl, ((HB.out.cell (World.block_lt_of_cell? w _ hw133_0)).trans hw133_0), ((HB.out.cell (World.block_lt_of_cell? w _ hw133_1)).trans hw133_1), ((HB.out.cell (World.block_lt_of_cell? w _ hw133_2)).trans hw133_2), ((HB.out.cell (World.block_lt_of_cell? w _ hw133_3)).trans hw133_3), ((HB.out.cell (World.block_lt_of_cell? w _ hw134_0)).trans hw134_0), ((HB.out.cell (World.block_lt_of_cell? w _ hw134_1)).trans hw134_1), ((HB.out.cell (World.block_lt_of_cell? w _ hw134_2)).trans hw134_2), ((HB.out.cell (World.block_lt_of_cell? w _ hw134_3)).trans hw134_3)⟩ (fun hHeld => ?_)
           clear hK K
           refine norm_ (a' := ?_) ?_ ?_
           rotate_left
           ·show Act.put _ (some 51) _ = _
            simp only [Act.put, List.setIfInBounds_toArray, List.set_cons_zero, List.set_cons_succ, i64_w, i32_w]
            rfl
           refine pu 11 (some 52) (bm 12 4095) (h := ?_)
           refine done_ (done_of HT_.out (by kernel_rfl)) ?_
           try go_wp2
           go_ret
           exact ⟨ze, zb⟩
         ·rw [if_neg c24] at H
          exact absurd H (by simp)
        ·rw [if_neg c23] at H
         exact absurd H (by simp)
       ·rw [if_neg c22] at H
        have c22b0 : decide (x5_2 < (l0_3.length : Int)) = false := decide_eq_false c22
        clear c22
        obtain rfl := Option.some.inj H
        have hnb35 := NB131_132.out
        have hnc35 := NB132_131.out
        obtain ⟨hcz36_0, hcz36_1, hcz36_2, hcz36_3, hfz36_0, hfz36_1, hfz36_2, hfz36_3⟩ := cz4 BK131.out
        go_wp2
        go_ret
        exact ⟨ze, zb⟩
end Go.Proofs.YtekpofpgkokoiaaDoor.Q
