/- A part of this claim: what its theorem leans on. -/
import Derived.Test.YtekpofpgkokoiaaDoorZQ0
import Derived.Test.YtekpofpgkokoiaaDoorZQpolyglotkitaD
import Derived.Test.YtekpofpgkokoiaaDoorZQlaw17livesaD
import Derived.Test.YtekpofpgkokoiaaDoorZQamqvalueaD
import Derived.Test.YtekpofpgkokoiaaDoorZQlaw17AmqvalueDepthsaD
import Derived.Test.YtekpofpgkokoiaaDoorZQpolyglotkita
import Derived.Test.YtekpofpgkokoiaaDoorZQlaw17livesa
import Derived.Test.YtekpofpgkokoiaaDoorZQamqvaluea
import Derived.Test.YtekpofpgkokoiaaDoorZVj
namespace Go.Proofs.YtekpofpgkokoiaaDoor.Q
open Go.RowKit Go.Proofs.YtekpofpgkokoiaaDoor.M Go.Proofs.YtekpofpgkokoiaaDoorW.PrintWords Go.Proofs.YtekpofpgkokoiaaDoorW.PrintLast Go.Proofs.YtekpofpgkokoiaaDoorW.PrintMore
attribute [local go_sem] max2_int min2_int max_two min_two max_three min_three max_four min_four
set_option linter.unusedVariables false
set_option linter.unusedSimpArgs false
def polyglotlaw17_AmqvalueDepths.T9 : Bool × List (List Nat × List Nat) := (true, [([], []), ([], []), ([0, 1], [0, 1]), ([], []), ([], []), ([3, 4, 2], [3, 4]), ([2, 5, 0, 1, 2], [2]), ([5, 6, 0, 1, 2, 3, 4, 5, 6], [5])])
def polyglotlaw17_AmqvalueDepths.B9 : List Nat := [0, 0, 3, 0, 0, 31, 63, 127]
theorem polyglotlaw17_AmqvalueDepths.tab9 : rtab .any (opsOf Tryd.f12 9) = polyglotlaw17_AmqvalueDepths.T9 := by kernel_rfl
theorem polyglotlaw17_AmqvalueDepths.bits9 : waitsOk polyglotlaw17_AmqvalueDepths.T9.2 polyglotlaw17_AmqvalueDepths.B9 = true := by kernel_rfl
def polyglotlaw17_AmqvalueDepths.T15 : Bool × List (List Nat × List Nat) := (true, [([], []), ([0], [0]), ([1], [1]), ([2], [2]), ([2], [2]), ([3, 4, 2, 2], [2, 3, 4]), ([5, 2], [2, 5]), ([2], [2]), ([2], [2]), ([8, 2], [2, 8]), ([7, 9, 5, 2], [2, 7, 9]), ([10, 2], [2, 10]), ([6, 11, 2], [2, 6, 11]), ([2, 12], [2, 12]), ([13, 10, 0, 1, 2, 3, 4, 5, 6, 7, 8, 9, 10, 11, 12, 13], [13])])
def polyglotlaw17_AmqvalueDepths.B15 : List Nat := [0, 1, 3, 7, 7, 31, 63, 7, 7, 263, 959, 1983, 4095, 8191, 16383]
theorem polyglotlaw17_AmqvalueDepths.tab15 : rtab .any (opsOf Tryd.f12 15) = polyglotlaw17_AmqvalueDepths.T15 := by kernel_rfl
theorem polyglotlaw17_AmqvalueDepths.bits15 : waitsOk polyglotlaw17_AmqvalueDepths.T15.2 polyglotlaw17_AmqvalueDepths.B15 = true := by kernel_rfl
set_option maxHeartbeats 8000000 in
set_option maxRecDepth 100000 in
theorem polyglotlaw17_AmqvalueDepths.calls (k : Nat) (a0_0 : Int) (a0_1 : Int) (a0_2 : ByteArray) (P0_3_ : Nat → Prop) (A0_3 : Option Addr) (c0_3 : Nat) (l0_3 : List (Vl)) (a1 : Int) (a2 : Int) (r : Bool) (w : World) (hT : Tb w) (hs0_3 : Kd.V kV 25 w w.heap.size (fun k_ => P0_3_ k_) (.slice A0_3 l0_3.length c0_3) l0_3) (h : polyglotlaw17_AmqvalueDepths.f k a0_0 a0_1 a0_2 l0_3 a1 a2 = some r) :
    Calls Tryd.prog 12 #[.agg #[.int .i64 a0_0, .int .u64 a0_1, .string a0_2, .slice A0_3 l0_3.length c0_3], .int .i64 a1, .int .i64 a2] w fun e w' => e = .returned (.bool r) ∧ Below w.heap.size w w' := by
  have hu25 := Tryd.underlying25
  have HO0_3 := Aside0.mk (show Kd.V kV 25 w w.heap.size (fun k_ => (P0_3_ k_ ∨ w.heap.size ≤ k_)) (.slice A0_3 l0_3.length c0_3) l0_3 from Kd.V_mono hs0_3 (fun k_ hk => .inl hk))
  have HB := Aside0.mk (Below.refl w.heap.size w)
  have HT := Aside0.mk hT
  clear hT
  have H : ((polyglotlaw17_lives.f k).bind fun t1183 => (if t1183 = true then ((polyglotkit_LightValue.f k a0_0 a0_1 a0_2 l0_3).bind fun t1184 => (if t1184 = true then ((polyglotkit_Pick.f a1 33).bind fun t1185 => ((polyglotkit_Pick.f a2 33).bind fun t1186 => (if t1185 > t1186 then (polyglotlaw17_AmqvalueDepths.j0 k t1186 t1185 a0_0 a0_1 a0_2 l0_3) else (polyglotlaw17_AmqvalueDepths.j0 k t1185 t1186 a0_0 a0_1 a0_2 l0_3)))) else (some true))) else (none))) = some r := h
  clear h
  replace H := Option.bind_eq_some_iff.mp H
  obtain ⟨t1183, A40, H⟩ := H
  replace H : (if t1183 = true then ((polyglotkit_LightValue.f k a0_0 a0_1 a0_2 l0_3).bind fun t1184 => (if t1184 = true then ((polyglotkit_Pick.f a1 33).bind fun t1185 => ((polyglotkit_Pick.f a2 33).bind fun t1186 => (if t1185 > t1186 then (polyglotlaw17_AmqvalueDepths.j0 k t1186 t1185 a0_0 a0_1 a0_2 l0_3) else (polyglotlaw17_AmqvalueDepths.j0 k t1185 t1186 a0_0 a0_1 a0_2 l0_3)))) else (some true))) else (none)) = some r := H
  have A4 := Aside0.mk A40
  clear A40
  by_cases c5 : t1183 = true
  ·subst c5
   have H1 : ((polyglotkit_LightValue.f k a0_0 a0_1 a0_2 l0_3).bind fun t1184 => (if t1184 = true then ((polyglotkit_Pick.f a1 33).bind fun t1185 => ((polyglotkit_Pick.f a2 33).bind fun t1186 => (if t1185 > t1186 then (polyglotlaw17_AmqvalueDepths.j0 k t1186 t1185 a0_0 a0_1 a0_2 l0_3) else (polyglotlaw17_AmqvalueDepths.j0 k t1185 t1186 a0_0 a0_1 a0_2 l0_3)))) else (some true))) = some r := by rw [if_pos rfl] at H; exact H
   clear H
   have H := H1
   clear H1
   replace H := Option.bind_eq_some_iff.mp H
   obtain ⟨t1184, A60, H⟩ := H
   replace H : (if t1184 = true then ((polyglotkit_Pick.f a1 33).bind fun t1185 => ((polyglotkit_Pick.f a2 33).bind fun t1186 => (if t1185 > t1186 then (polyglotlaw17_AmqvalueDepths.j0 k t1186 t1185 a0_0 a0_1 a0_2 l0_3) else (polyglotlaw17_AmqvalueDepths.j0 k t1185 t1186 a0_0 a0_1 a0_2 l0_3)))) else (some true)) = some r := H
   have A6 := Aside0.mk A60
   clear A60
   by_cases c7 : t1184 = true
   ·subst c7
    have H1 : ((polyglotkit_Pick.f a1 33).bind fun t1185 => ((polyglotkit_Pick.f a2 33).bind fun t1186 => (if t1185 > t1186 then (polyglotlaw17_AmqvalueDepths.j0 k t1186 t1185 a0_0 a0_1 a0_2 l0_3) else (polyglotlaw17_AmqvalueDepths.j0 k t1185 t1186 a0_0 a0_1 a0_2 l0_3)))) = some r := by rw [if_pos rfl] at H; exact H
    clear H
    have H := H1
    clear H1
    replace H := Option.bind_eq_some_iff.mp H
    obtain ⟨t1185, A80, H⟩ := H
    replace H : ((polyglotkit_Pick.f a2 33).bind fun t1186 => (if t1185 > t1186 then (polyglotlaw17_AmqvalueDepths.j0 k t1186 t1185 a0_0 a0_1 a0_2 l0_3) else (polyglotlaw17_AmqvalueDepths.j0 k t1185 t1186 a0_0 a0_1 a0_2 l0_3))) = some r := H
    have A8 := Aside0.mk A80
    clear A80
    replace H := Option.bind_eq_some_iff.mp H
    obtain ⟨t1186, A90, H⟩ := H
    replace H : (if t1185 > t1186 then (polyglotlaw17_AmqvalueDepths.j0 k t1186 t1185 a0_0 a0_1 a0_2 l0_3) else (polyglotlaw17_AmqvalueDepths.j0 k t1185 t1186 a0_0 a0_1 a0_2 l0_3)) = some r := H
    have A9 := Aside0.mk A90
    clear A90
    have HC10 := Aside0.mk H
    clear H
    go_enter Tryd.func12, Tryd.ntmps12
    go_upto_if 23 with (first | ((with_reducible refine gate_dst (N := 3) rfl ?_); refine box_event ?hg (N := 3) ?hd (cs := #[.int .i64 a0_0, .int .u64 a0_1, .string a0_2, .slice A0_3 l0_3.length c0_3]) (t := 25) ?hr ?_; (case hd => rfl); (case hg => rfl); (case hr => first | (go_simp; done) | (go_simp; rfl)); intro gb1182 hg w11 hbox hb; have n0_ := Aside0.mk (Kd.V_below (Kd.V_elderB (by (with_reducible repeat (first | apply Kd.V_alloc | apply Kd.V_drewN | apply Kd.V_drew)); exact HO0_3.out) gb1182 (Nat.le_of_eq hg.symm)) hb); have n1_ := Aside0.mk (below_step (by repeat (first | (with_reducible first | exact HB.out | apply below_alloc | apply pw_below_drewN | apply below_drew1) | exact HB.out)) hb); have n2_ := Aside0.mk (hbox); have n3_ := Aside0.mk ((by rw [hg]; exact (below_size (by repeat (first | (with_reducible first | exact HB.out | apply below_alloc | apply pw_below_drewN | apply below_drew1) | exact HB.out))) : w.heap.size ≤ gb1182)); have n4_ := Aside0.mk ((by rw [hg]; exact (below_size (by repeat (first | (with_reducible first | exact HB.out | apply below_alloc | apply pw_below_drewN | apply below_drew1) | exact HB.out))) : w.heap.size ≤ gb1182)); clear HO0_3; clear HB; have HO0_3 := n0_; have HB := n1_; have BK1182 := n2_; have GW1182 := n3_; have GE1182 := n4_; clear n0_ n1_ n2_ n3_ n4_; clear hb hbox hg) | ((with_reducible refine gate_callee (f := 27) rfl ?_); refine goesL_ (some 12) rfl rfl Tryd.func27 (by kernel_rfl) rfl #[] rfl (by (try simp only [List.map_toArray, List.map_cons, List.map_nil]); first | done | rfl | (simp only [List.length_drop, List.length_take]; rfl)) ?_; (with_reducible refine (polyglotlaw17_lives.calls k  true _ ?side1 A4.out).mono ?_); (case side1 => exact HT.out.below (by repeat (first | (with_reducible first | exact HB.out | apply below_alloc | apply pw_below_drewN | apply below_drew1 | refine below_set ?_ GE1182.out) | exact HB.out))); rintro e w12 ⟨rfl, hb⟩; refine ⟨_, rfl, ?_⟩; have n0_ := Aside0.mk (Kd.V_below (by (with_reducible repeat (first | apply Kd.V_alloc | apply Kd.V_drewN | apply Kd.V_drew)); exact HO0_3.out) hb); have n1_ := Aside0.mk (blk_below (g := gb1182) (o := .cells #[.int .i64 a0_0, .int .u64 a0_1, .string a0_2, .slice A0_3 l0_3.length c0_3] 25 (0, 0)) (by (with_reducible repeat (first | refine blk_drewN ?_ _ | refine blk_drew ?_ | refine blk_alloc ?_ _)); exact BK1182.out) hb); have n2_ := Aside0.mk (below_step (by repeat (first | (with_reducible first | exact HB.out | apply below_alloc | apply pw_below_drewN | apply below_drew1 | refine below_set ?_ GE1182.out) | exact HB.out)) hb); clear HO0_3; clear BK1182; clear HB; have HO0_3 := n0_; have BK1182 := n1_; have HB := n2_; clear n0_ n1_ n2_; (try clear hb); (try clear hb2); (try clear hk); (try clear hi); have hcz13_0 : w12.cell? ⟨gb1182, 0, none⟩ = some (.int .i64 a0_0) := (blk_cell BK1182.out 0).trans rfl; have hcz13_1 : w12.cell? ⟨gb1182, 1, none⟩ = some (.int .u64 a0_1) := (blk_cell BK1182.out 1).trans rfl; have hcz13_2 : w12.cell? ⟨gb1182, 2, none⟩ = some (.string a0_2) := (blk_cell BK1182.out 2).trans rfl; have hcz13_3 : w12.cell? ⟨gb1182, 3, none⟩ = some (.slice A0_3 l0_3.length c0_3) := (blk_cell BK1182.out 3).trans rfl; have hfz13_0 := blk_frozen BK1182.out 0; have hfz13_1 := blk_frozen BK1182.out 1; have hfz13_2 := blk_frozen BK1182.out 2; have hfz13_3 := blk_frozen BK1182.out 3) | ((with_reducible refine gate_callee (f := 19) rfl ?_); refine goesL_ (some 15) rfl rfl Tryd.func19 (by kernel_rfl) rfl #[.agg #[.int .i64 a0_0, .int .u64 a0_1, .string a0_2, .slice A0_3 l0_3.length c0_3]] rfl (by (try simp only [List.map_toArray, List.map_cons, List.map_nil]); first | done | rfl | (simp only [List.length_drop, List.length_take]; rfl)) ?_; (with_reducible refine (polyglotkit_LightValue.calls k a0_0 a0_1 a0_2 _ _ l0_3 true _ ?side1 ?side2 A6.out).mono ?_); (case side1 => repeat (first | exact (Kd.V_reads' HO0_3.out).2.2 | (with_reducible refine Kd.C_alloc ?_ _) | (with_reducible refine Kd.C_drewN ?_ _) | (with_reducible refine Kd.C_drew ?_))); (case side2 => exact (Kd.V_reads' HO0_3.out).2.1); rintro e w14 ⟨rfl, hb⟩; refine ⟨_, rfl, ?_⟩; have n0_ := Aside0.mk (Kd.V_below (by (with_reducible repeat (first | apply Kd.V_alloc | apply Kd.V_drewN | apply Kd.V_drew)); exact HO0_3.out) hb); have n1_ := Aside0.mk (blk_below (g := gb1182) (o := .cells #[.int .i64 a0_0, .int .u64 a0_1, .string a0_2, .slice A0_3 l0_3.length c0_3] 25 (0, 0)) (by (with_reducible repeat (first | refine blk_drewN ?_ _ | refine blk_drew ?_ | refine blk_alloc ?_ _)); exact BK1182.out) hb); have n2_ := Aside0.mk (below_step (by repeat (first | (with_reducible first | exact HB.out | apply below_alloc | apply pw_below_drewN | apply below_drew1 | refine below_set ?_ GE1182.out) | exact HB.out)) hb); clear HO0_3; clear BK1182; clear HB; have HO0_3 := n0_; have BK1182 := n1_; have HB := n2_; clear n0_ n1_ n2_; (try clear hb); (try clear hb2); (try clear hk); (try clear hi)) | ((with_reducible refine gate_callee (f := 22) rfl ?_); refine goesL_ (some 18) rfl rfl Tryd.func22 (by kernel_rfl) rfl #[.int .i64 a1, .int .i64 33] rfl (by (try simp only [List.map_toArray, List.map_cons, List.map_nil]); first | done | rfl | (simp only [List.length_drop, List.length_take]; rfl)) ?_; (with_reducible refine (polyglotkit_Pick.calls a1 33 t1185 _ A8.out).mono ?_); rintro e w' ⟨rfl, ⟨nd, rfl⟩⟩; refine ⟨_, rfl, ?_⟩) | ((with_reducible refine gate_callee (f := 22) rfl ?_); refine goesL_ (some 20) rfl rfl Tryd.func22 (by kernel_rfl) rfl #[.int .i64 a2, .int .i64 33] rfl (by (try simp only [List.map_toArray, List.map_cons, List.map_nil]); first | done | rfl | (simp only [List.length_drop, List.length_take]; rfl)) ?_; (with_reducible refine (polyglotkit_Pick.calls a2 33 t1186 _ A9.out).mono ?_); rintro e w' ⟨rfl, ⟨nd, rfl⟩⟩; refine ⟨_, rfl, ?_⟩))
    (try simp only [Act.put, List.setIfInBounds_toArray, List.set_cons_zero, List.set_cons_succ])
    go_cut [1, 2] (fun v1 v2 wc => ∃ (kq : Nat) (x1_9 : Int) (x2_9 : Int), v1 = .int .i64 x1_9 ∧ v2 = .int .i64 x2_9 ∧ Aside0 (polyglotlaw17_AmqvalueDepths.j0 kq x1_9 x2_9 a0_0 a0_1 a0_2 l0_3 = some r) ∧ Aside0 (kq ≤ k) ∧ Aside0 (Kd.V kV 25 wc w.heap.size (fun k_ => (P0_3_ k_ ∨ w.heap.size ≤ k_) ∧ k_ ≠ gb1182) (.slice A0_3 l0_3.length c0_3) l0_3) ∧ Aside0 (wc.heap[gb1182]? = some (.cells #[.int .i64 a0_0, .int .u64 a0_1, .string a0_2, (.slice A0_3 l0_3.length c0_3)] 25 (0, 0))) ∧ Aside0 (Below w.heap.size w wc))
    case first =>
     have H := HC10.out
     clear HC10
     by_cases c15 : t1185 > t1186
     ·rw [if_pos c15] at H
      have c15b0 : decide (t1186 < t1185) = true := decide_eq_true c15
      clear c15
      (first | rw [c15b0] | (simp only [i64_w, i32_w]; rw [c15b0]) | skip)
      have H' := Aside0.mk H
      clear H
      go_wp2
      go_meet
      case rel => exact ⟨_, (t1186), (t1185), (by first | rfl | (simp; done) | (simp [*]; done)), (by first | rfl | (simp; done) | (simp [*]; done)), H', ⟨by first | omega | exact Nat.le_refl _⟩, ⟨by (with_reducible repeat (first | apply Kd.V_alloc | apply Kd.V_drewN | apply Kd.V_drew)); exact HO0_3.out⟩, ⟨by (with_reducible repeat (first | refine blk_drewN ?_ _ | refine blk_drew ?_ | refine blk_alloc ?_ _)); exact BK1182.out⟩, ⟨by repeat (first | (with_reducible first | exact HB.out | apply below_alloc | apply pw_below_drewN | apply below_drew1 | refine below_set ?_ GE1182.out) | exact HB.out)⟩⟩
     ·rw [if_neg c15] at H
      have c15b0 : decide (t1186 < t1185) = false := decide_eq_false c15
      clear c15
      (first | rw [c15b0] | (simp only [i64_w, i32_w]; rw [c15b0]) | skip)
      have H' := Aside0.mk H
      clear H
      go_wp2
      go_meet
      case rel => exact ⟨_, (t1185), (t1186), (by first | rfl | (simp; done) | (simp [*]; done)), (by first | rfl | (simp; done) | (simp [*]; done)), H', ⟨by first | omega | exact Nat.le_refl _⟩, ⟨by (with_reducible repeat (first | apply Kd.V_alloc | apply Kd.V_drewN | apply Kd.V_drew)); exact HO0_3.out⟩, ⟨by (with_reducible repeat (first | refine blk_drewN ?_ _ | refine blk_drew ?_ | refine blk_alloc ?_ _)); exact BK1182.out⟩, ⟨by repeat (first | (with_reducible first | exact HB.out | apply below_alloc | apply pw_below_drewN | apply below_drew1 | refine below_set ?_ GE1182.out) | exact HB.out)⟩⟩
    case rest =>
     clear HC10
     try clear c1
     try clear c2
     try clear p2
     try clear c5
     try clear c7
     try clear c12
     try clear c15
     try clear c15b0
     try clear hcz13_0
     try clear hcz13_1
     try clear hcz13_2
     try clear hcz13_3
     try clear hfz13_0
     try clear hfz13_1
     try clear hfz13_2
     try clear hfz13_3
     obtain ⟨kq, x1_9, x2_9, rfl, rfl, HA, HJ9, HO_1183003, BK1182, HB⟩ := hcut
     cases kq with
     | zero => exact absurd HA.out (by simp [polyglotlaw17_AmqvalueDepths.j0])
     | succ kj9 =>
      have H := HA.out
      clear HA
      simp only [polyglotlaw17_AmqvalueDepths.j0] at H
      replace H := Option.bind_eq_some_iff.mp H
      obtain ⟨t1187, A160, H⟩ := H
      replace H : ((amqvalue_Count.f kj9 a0_0 a0_1 a0_2 l0_3).bind fun t1188 => ((amqvalue_Check.f a0_0 a0_1 a0_2 l0_3 x1_9).bind fun t1189 => ((amqvalue_Check.f a0_0 a0_1 a0_2 l0_3 x2_9).bind fun t1190 => (if t1189 = 0 then (if t1190 = 0 then (if x1_9 < t1187 then (polyglotlaw17_AmqvalueDepths.j1 kj9 x2_9 t1187 t1188 true a0_0 a0_1 a0_2 l0_3) else (if t1187 < 0 then (polyglotlaw17_AmqvalueDepths.j1 kj9 x2_9 t1187 t1188 true a0_0 a0_1 a0_2 l0_3) else (polyglotlaw17_AmqvalueDepths.j1 kj9 x2_9 t1187 t1188 (decide (t1188 < 1)) a0_0 a0_1 a0_2 l0_3))) else (polyglotlaw17_AmqvalueDepths.j1 kj9 x2_9 t1187 t1188 true a0_0 a0_1 a0_2 l0_3)) else (if t1187 < 0 then (polyglotlaw17_AmqvalueDepths.j1 kj9 x2_9 t1187 t1188 true a0_0 a0_1 a0_2 l0_3) else (polyglotlaw17_AmqvalueDepths.j1 kj9 x2_9 t1187 t1188 (decide (t1188 < 1)) a0_0 a0_1 a0_2 l0_3)))))) = some r := H
      have A16 := Aside0.mk A160
      clear A160
      replace H := Option.bind_eq_some_iff.mp H
      obtain ⟨t1188, A170, H⟩ := H
      replace H : ((amqvalue_Check.f a0_0 a0_1 a0_2 l0_3 x1_9).bind fun t1189 => ((amqvalue_Check.f a0_0 a0_1 a0_2 l0_3 x2_9).bind fun t1190 => (if t1189 = 0 then (if t1190 = 0 then (if x1_9 < t1187 then (polyglotlaw17_AmqvalueDepths.j1 kj9 x2_9 t1187 t1188 true a0_0 a0_1 a0_2 l0_3) else (if t1187 < 0 then (polyglotlaw17_AmqvalueDepths.j1 kj9 x2_9 t1187 t1188 true a0_0 a0_1 a0_2 l0_3) else (polyglotlaw17_AmqvalueDepths.j1 kj9 x2_9 t1187 t1188 (decide (t1188 < 1)) a0_0 a0_1 a0_2 l0_3))) else (polyglotlaw17_AmqvalueDepths.j1 kj9 x2_9 t1187 t1188 true a0_0 a0_1 a0_2 l0_3)) else (if t1187 < 0 then (polyglotlaw17_AmqvalueDepths.j1 kj9 x2_9 t1187 t1188 true a0_0 a0_1 a0_2 l0_3) else (polyglotlaw17_AmqvalueDepths.j1 kj9 x2_9 t1187 t1188 (decide (t1188 < 1)) a0_0 a0_1 a0_2 l0_3))))) = some r := H
      have A17 := Aside0.mk A170
      clear A170
      replace H := Option.bind_eq_some_iff.mp H
      obtain ⟨t1189, A180, H⟩ := H
      replace H : ((amqvalue_Check.f a0_0 a0_1 a0_2 l0_3 x2_9).bind fun t1190 => (if t1189 = 0 then (if t1190 = 0 then (if x1_9 < t1187 then (polyglotlaw17_AmqvalueDepths.j1 kj9 x2_9 t1187 t1188 true a0_0 a0_1 a0_2 l0_3) else (if t1187 < 0 then (polyglotlaw17_AmqvalueDepths.j1 kj9 x2_9 t1187 t1188 true a0_0 a0_1 a0_2 l0_3) else (polyglotlaw17_AmqvalueDepths.j1 kj9 x2_9 t1187 t1188 (decide (t1188 < 1)) a0_0 a0_1 a0_2 l0_3))) else (polyglotlaw17_AmqvalueDepths.j1 kj9 x2_9 t1187 t1188 true a0_0 a0_1 a0_2 l0_3)) else (if t1187 < 0 then (polyglotlaw17_AmqvalueDepths.j1 kj9 x2_9 t1187 t1188 true a0_0 a0_1 a0_2 l0_3) else (polyglotlaw17_AmqvalueDepths.j1 kj9 x2_9 t1187 t1188 (decide (t1188 < 1)) a0_0 a0_1 a0_2 l0_3)))) = some r := H
      have A18 := Aside0.mk A180
      clear A180
      replace H := Option.bind_eq_some_iff.mp H
      obtain ⟨t1190, A190, H⟩ := H
      replace H : (if t1189 = 0 then (if t1190 = 0 then (if x1_9 < t1187 then (polyglotlaw17_AmqvalueDepths.j1 kj9 x2_9 t1187 t1188 true a0_0 a0_1 a0_2 l0_3) else (if t1187 < 0 then (polyglotlaw17_AmqvalueDepths.j1 kj9 x2_9 t1187 t1188 true a0_0 a0_1 a0_2 l0_3) else (polyglotlaw17_AmqvalueDepths.j1 kj9 x2_9 t1187 t1188 (decide (t1188 < 1)) a0_0 a0_1 a0_2 l0_3))) else (polyglotlaw17_AmqvalueDepths.j1 kj9 x2_9 t1187 t1188 true a0_0 a0_1 a0_2 l0_3)) else (if t1187 < 0 then (polyglotlaw17_AmqvalueDepths.j1 kj9 x2_9 t1187 t1188 true a0_0 a0_1 a0_2 l0_3) else (polyglotlaw17_AmqvalueDepths.j1 kj9 x2_9 t1187 t1188 (decide (t1188 < 1)) a0_0 a0_1 a0_2 l0_3))) = some r := H
      have A19 := Aside0.mk A190
      clear A190
      have HC20 := Aside0.mk H
      clear H
      try go_wp2
      have n0_ := Aside0.mk (Kd.V_drew HO_1183003.out)
      have n1_ := Aside0.mk (blk_drew BK1182.out)
      have n2_ := Aside0.mk (below_drew1 HB.out)
      clear HO_1183003
      clear BK1182
      clear HB
      have HO_1183003 := n0_
      have BK1182 := n1_
      have HB := n2_
      clear n0_ n1_ n2_
      refine start_ (n := 6) (S := fun w' => w'.cell? ⟨gb1182, 0, none⟩ = some (.int .i64 a0_0) ∧ w'.cell? ⟨gb1182, 1, none⟩ = some (.int .u64 a0_1) ∧ w'.cell? ⟨gb1182, 2, none⟩ = some (.string a0_2) ∧ w'.cell? ⟨gb1182, 3, none⟩ = some (.slice A0_3 l0_3.length c0_3)) (ds := []) #[false, false, false, false, false, false] (by kernel_rfl) rfl rfl ⟨(blk_cell BK1182.out 0).trans rfl, (blk_cell BK1182.out 1).trans rfl, (blk_cell BK1182.out 2).trans rfl, (blk_cell BK1182.out 3).trans rfl⟩ (fun hHeld => ?_)
      generalize wc.drew = w21 at HO_1183003 BK1182 HB hHeld ⊢
      refine take_ (i := 0) (N := some 26) (v := ?_) (a' := ?_) #[true, false, false, false, false, false] rfl rfl (by kernel_rfl) (fun _ _ _ h => h) (Or.inl ⟨by rfl, ?_⟩) hHeld ?_ ?_
      rotate_left
      ·rintro w' ⟨s0, s1, s2, s3⟩
       go_simp
       with_reducible rfl
      rotate_left
      ·simp only [Act.put, List.setIfInBounds_toArray, List.set_cons_zero, List.set_cons_succ, i64_w, i32_w]
       rfl
      refine take_ (i := 2) (N := some 28) (v := ?_) (a' := ?_) #[true, false, true, false, false, false] rfl rfl (by kernel_rfl) (fun _ _ _ h => h) (Or.inl ⟨by rfl, ?_⟩) hHeld ?_ ?_
      rotate_left
      ·rintro w' ⟨s0, s1, s2, s3⟩
       go_simp
       with_reducible rfl
      rotate_left
      ·simp only [Act.put, List.setIfInBounds_toArray, List.set_cons_zero, List.set_cons_succ, i64_w, i32_w]
       rfl
      refine one_ (i := 1) (N := some 27) #[true, true, true, false, false, false] rfl rfl (by kernel_rfl) (by decide) (fun K hK => ?_)
      refine goes_ Tryd.func50 (by kernel_rfl) rfl #[.agg #[.int .i64 a0_0, .int .u64 a0_1, .string a0_2, .slice A0_3 l0_3.length c0_3]] (by rfl) rfl rfl (by (try simp only [List.map_toArray, List.map_cons, List.map_nil]); first | done | rfl | (simp only [List.length_drop, List.length_take]; rfl)) ?_
      with_reducible refine (amqvalue_Depth.calls kj9 a0_0 a0_1 a0_2 _ _ l0_3 t1187 _ ?side1 ?side2 A16.out).mono ?_
      (case side1 => repeat (first | exact (Kd.V_reads' HO_1183003.out).2.2 | (with_reducible refine Kd.C_alloc ?_ _) | (with_reducible refine Kd.C_drewN ?_ _) | (with_reducible refine Kd.C_drew ?_)))
      (case side2 => exact (Kd.V_reads' HO_1183003.out).2.1)
      rintro e w22 ⟨rfl, hb⟩
      refine ⟨_, rfl, ?_⟩
      have n0_ := Aside0.mk (Kd.V_below (by (with_reducible repeat (first | apply Kd.V_alloc | apply Kd.V_drewN | apply Kd.V_drew)); exact HO_1183003.out) hb)
      have n1_ := Aside0.mk (blk_below (g := gb1182) (o := .cells #[.int .i64 a0_0, .int .u64 a0_1, .string a0_2, .slice A0_3 l0_3.length c0_3] 25 (0, 0)) (by (with_reducible repeat (first | refine blk_drewN ?_ _ | refine blk_drew ?_ | refine blk_alloc ?_ _)); exact BK1182.out) hb)
      have n2_ := Aside0.mk (below_step (by repeat (first | (with_reducible first | exact HB.out | apply below_alloc | apply pw_below_drewN | apply below_drew1 | refine below_set ?_ GE1182.out) | exact HB.out)) hb)
      clear HO_1183003
      clear BK1182
      clear HB
      have HO_1183003 := n0_
      have BK1182 := n1_
      have HB := n2_
      clear n0_ n1_ n2_
      (try clear hb)
      (try clear hb2)
      (try clear hk)
      (try clear hi)
      refine hK.out _ _ ⟨(blk_cell BK1182.out 0).trans rfl, (blk_cell BK1182.out 1).trans rfl, (blk_cell BK1182.out 2).trans rfl, (blk_cell BK1182.out 3).trans rfl⟩ (fun hHeld => ?_)
      clear hK K
      refine norm_ (a' := ?_) ?_ ?_
      rotate_left
      ·show Act.put _ (some 27) _ = _
       simp only [Act.put, List.setIfInBounds_toArray, List.set_cons_zero, List.set_cons_succ, i64_w, i32_w]
       rfl
      refine one_ (i := 3) (N := some 29) #[true, true, true, true, false, false] rfl rfl (by kernel_rfl) (by decide) (fun K hK => ?_)
      refine goes_ Tryd.func33 (by kernel_rfl) rfl #[.agg #[.int .i64 a0_0, .int .u64 a0_1, .string a0_2, .slice A0_3 l0_3.length c0_3]] (by rfl) rfl rfl (by (try simp only [List.map_toArray, List.map_cons, List.map_nil]); first | done | rfl | (simp only [List.length_drop, List.length_take]; rfl)) ?_
      with_reducible refine (amqvalue_Count.calls kj9 a0_0 a0_1 a0_2 _ _ l0_3 t1188 _ ?side1 ?side2 A17.out).mono ?_
      (case side1 => repeat (first | exact (Kd.V_reads' HO_1183003.out).2.2 | (with_reducible refine Kd.C_alloc ?_ _) | (with_reducible refine Kd.C_drewN ?_ _) | (with_reducible refine Kd.C_drew ?_)))
      (case side2 => exact (Kd.V_reads' HO_1183003.out).2.1)
      rintro e w23 ⟨rfl, hb⟩
      refine ⟨_, rfl, ?_⟩
      have n0_ := Aside0.mk (Kd.V_below (by (with_reducible repeat (first | apply Kd.V_alloc | apply Kd.V_drewN | apply Kd.V_drew)); exact HO_1183003.out) hb)
      have n1_ := Aside0.mk (blk_below (g := gb1182) (o := .cells #[.int .i64 a0_0, .int .u64 a0_1, .string a0_2, .slice A0_3 l0_3.length c0_3] 25 (0, 0)) (by (with_reducible repeat (first | refine blk_drewN ?_ _ | refine blk_drew ?_ | refine blk_alloc ?_ _)); exact BK1182.out) hb)
      have n2_ := Aside0.mk (below_step (by repeat (first | (with_reducible first | exact HB.out | apply below_alloc | apply pw_below_drewN | apply below_drew1 | refine below_set ?_ GE1182.out) | exact HB.out)) hb)
      clear HO_1183003
      clear BK1182
      clear HB
      have HO_1183003 := n0_
      have BK1182 := n1_
      have HB := n2_
      clear n0_ n1_ n2_
      (try clear hb)
      (try clear hb2)
      (try clear hk)
      (try clear hi)
      refine hK.out _ _ ⟨(blk_cell BK1182.out 0).trans rfl, (blk_cell BK1182.out 1).trans rfl, (blk_cell BK1182.out 2).trans rfl, (blk_cell BK1182.out 3).trans rfl⟩ (fun hHeld => ?_)
      clear hK K
      refine norm_ (a' := ?_) ?_ ?_
      rotate_left
      ·show Act.put _ (some 29) _ = _
       simp only [Act.put, List.setIfInBounds_toArray, List.set_cons_zero, List.set_cons_succ, i64_w, i32_w]
       rfl
      refine pure_ (i := 4) (N := some 7) (v := ?_) (a' := ?_) #[true, true, true, true, true, false] rfl rfl (by kernel_rfl) (fun _ _ _ h => h) (Or.inl ⟨by rfl, ?_⟩) ?_ ?_
      rotate_left
      ·intro w'
       go_simp
       with_reducible rfl
      rotate_left
      ·simp only [Act.put, List.setIfInBounds_toArray, List.set_cons_zero, List.set_cons_succ, i64_w, i32_w]
       rfl
      refine pure_ (i := 5) (N := some 8) (v := ?_) (a' := ?_) #[true, true, true, true, true, true] rfl rfl (by kernel_rfl) (fun _ _ _ h => h) (Or.inl ⟨by rfl, ?_⟩) ?_ ?_
      rotate_left
      ·intro w'
       go_simp
       with_reducible rfl
      rotate_left
      ·simp only [Act.put, List.setIfInBounds_toArray, List.set_cons_zero, List.set_cons_succ, i64_w, i32_w]
       rfl
      refine done_ (by kernel_rfl) ?_
      try go_wp2
      have n0_ := Aside0.mk (Kd.V_drew HO_1183003.out)
      have n1_ := Aside0.mk (blk_drew BK1182.out)
      have n2_ := Aside0.mk (below_drew1 HB.out)
      clear HO_1183003
      clear BK1182
      clear HB
      have HO_1183003 := n0_
      have BK1182 := n1_
      have HB := n2_
      clear n0_ n1_ n2_
      refine start_ (n := 8) (S := fun w' => w'.cell? ⟨gb1182, 0, none⟩ = some (.int .i64 a0_0) ∧ w'.cell? ⟨gb1182, 1, none⟩ = some (.int .u64 a0_1) ∧ w'.cell? ⟨gb1182, 2, none⟩ = some (.string a0_2) ∧ w'.cell? ⟨gb1182, 3, none⟩ = some (.slice A0_3 l0_3.length c0_3)) (ds := []) #[false, false, false, false, false, false, false, false] (by kernel_rfl) rfl rfl ⟨(blk_cell BK1182.out 0).trans rfl, (blk_cell BK1182.out 1).trans rfl, (blk_cell BK1182.out 2).trans rfl, (blk_cell BK1182.out 3).trans rfl⟩ (fun hHeld => ?_); refine with_tabW polyglotlaw17_AmqvalueDepths.tab9 polyglotlaw17_AmqvalueDepths.bits9 (fun HT_ HW_ => ?_)
      generalize w23.drew = w24 at HO_1183003 BK1182 HB hHeld ⊢
      refine pure_ (i := 1) (N := some 31) (v := ?_) (a' := ?_) #[false, true, false, false, false, false, false, false] rfl rfl (any_of HT_.out (by kernel_rfl)) (fun _ _ _ h => h) (Or.inl ⟨by rfl, ?_⟩) ?_ ?_
      rotate_left
      ·intro w'
       go_simp
       with_reducible rfl
      rotate_left
      ·simp only [Act.put, List.setIfInBounds_toArray, List.set_cons_zero, List.set_cons_succ, i64_w, i32_w]
       rfl
      refine pure_ (i := 4) (N := some 34) (v := ?_) (a' := ?_) #[false, true, false, false, true, false, false, false] rfl rfl (any_of HT_.out (by kernel_rfl)) (fun _ _ _ h => h) (Or.inl ⟨by rfl, ?_⟩) ?_ ?_
      rotate_left
      ·intro w'
       go_simp
       with_reducible rfl
      rotate_left
      ·simp only [Act.put, List.setIfInBounds_toArray, List.set_cons_zero, List.set_cons_succ, i64_w, i32_w]
       rfl
      refine take_ (i := 0) (N := some 30) (v := ?_) (a' := ?_) #[true, true, false, false, true, false, false, false] rfl rfl (take_ofW HT_.out HW_.out (by kernel_rfl)) (fun _ _ _ h => h) (Or.inl ⟨by rfl, ?_⟩) hHeld ?_ ?_
      rotate_left
      ·rintro w' ⟨s0, s1, s2, s3⟩
       go_simp
       with_reducible rfl
      rotate_left
      ·simp only [Act.put, List.setIfInBounds_toArray, List.set_cons_zero, List.set_cons_succ, i64_w, i32_w]
       rfl
      refine take_ (i := 3) (N := some 33) (v := ?_) (a' := ?_) #[true, true, false, true, true, false, false, false] rfl rfl (take_ofW HT_.out HW_.out (by kernel_rfl)) (fun _ _ _ h => h) (Or.inl ⟨by rfl, ?_⟩) hHeld ?_ ?_
      rotate_left
      ·rintro w' ⟨s0, s1, s2, s3⟩
       go_simp
       with_reducible rfl
      rotate_left
      ·simp only [Act.put, List.setIfInBounds_toArray, List.set_cons_zero, List.set_cons_succ, i64_w, i32_w]
       rfl
      refine one_ (i := 2) (N := some 32) #[true, true, true, true, true, false, false, false] rfl rfl (one_of HT_.out (by kernel_rfl)) (by decide) (fun K hK => ?_)
      refine goes_ Tryd.func49 (by kernel_rfl) rfl #[.agg #[.int .i64 a0_0, .int .u64 a0_1, .string a0_2, .slice A0_3 l0_3.length c0_3], .int .i64 x1_9] (by rfl) rfl rfl (by (try simp only [List.map_toArray, List.map_cons, List.map_nil]); first | done | rfl | (simp only [List.length_drop, List.length_take]; rfl)) ?_
      with_reducible refine (amqvalue_Check.calls a0_0 a0_1 a0_2 _ _ l0_3 x1_9 t1189 _ ?side1 ?side2 ?side3 A18.out).mono ?_
      (case side1 => exact HT.out.below (by repeat (first | (with_reducible first | exact HB.out | apply below_alloc | apply pw_below_drewN | apply below_drew1 | refine below_set ?_ GE1182.out) | exact HB.out)))
      (case side2 => repeat (first | exact (Kd.V_reads' HO_1183003.out).2.2 | (with_reducible refine Kd.C_alloc ?_ _) | (with_reducible refine Kd.C_drewN ?_ _) | (with_reducible refine Kd.C_drew ?_)))
      (case side3 => exact (Kd.V_reads' HO_1183003.out).2.1)
      rintro e w25 ⟨rfl, hb⟩
      refine ⟨_, rfl, ?_⟩
      have n0_ := Aside0.mk (Kd.V_below (by (with_reducible repeat (first | apply Kd.V_alloc | apply Kd.V_drewN | apply Kd.V_drew)); exact HO_1183003.out) hb)
      have n1_ := Aside0.mk (blk_below (g := gb1182) (o := .cells #[.int .i64 a0_0, .int .u64 a0_1, .string a0_2, .slice A0_3 l0_3.length c0_3] 25 (0, 0)) (by (with_reducible repeat (first | refine blk_drewN ?_ _ | refine blk_drew ?_ | refine blk_alloc ?_ _)); exact BK1182.out) hb)
      have n2_ := Aside0.mk (below_step (by repeat (first | (with_reducible first | exact HB.out | apply below_alloc | apply pw_below_drewN | apply below_drew1 | refine below_set ?_ GE1182.out) | exact HB.out)) hb)
      clear HO_1183003
      clear BK1182
      clear HB
      have HO_1183003 := n0_
      have BK1182 := n1_
      have HB := n2_
      clear n0_ n1_ n2_
      (try clear hb)
      (try clear hb2)
      (try clear hk)
      (try clear hi)
      refine hK.out _ _ ⟨(blk_cell BK1182.out 0).trans rfl, (blk_cell BK1182.out 1).trans rfl, (blk_cell BK1182.out 2).trans rfl, (blk_cell BK1182.out 3).trans rfl⟩ (fun hHeld => ?_)
      clear hK K
      refine norm_ (a' := ?_) ?_ ?_
      rotate_left
      ·show Act.put _ (some 32) _ = _
       simp only [Act.put, List.setIfInBounds_toArray, List.set_cons_zero, List.set_cons_succ, i64_w, i32_w]
       rfl
      refine one_ (i := 5) (N := some 35) #[true, true, true, true, true, true, false, false] rfl rfl (one_of HT_.out (by kernel_rfl)) (by decide) (fun K hK => ?_)
      refine goes_ Tryd.func49 (by kernel_rfl) rfl #[.agg #[.int .i64 a0_0, .int .u64 a0_1, .string a0_2, .slice A0_3 l0_3.length c0_3], .int .i64 x2_9] (by rfl) rfl rfl (by (try simp only [List.map_toArray, List.map_cons, List.map_nil]); first | done | rfl | (simp only [List.length_drop, List.length_take]; rfl)) ?_
      with_reducible refine (amqvalue_Check.calls a0_0 a0_1 a0_2 _ _ l0_3 x2_9 t1190 _ ?side1 ?side2 ?side3 A19.out).mono ?_
      (case side1 => exact HT.out.below (by repeat (first | (with_reducible first | exact HB.out | apply below_alloc | apply pw_below_drewN | apply below_drew1 | refine below_set ?_ GE1182.out) | exact HB.out)))
      (case side2 => repeat (first | exact (Kd.V_reads' HO_1183003.out).2.2 | (with_reducible refine Kd.C_alloc ?_ _) | (with_reducible refine Kd.C_drewN ?_ _) | (with_reducible refine Kd.C_drew ?_)))
      (case side3 => exact (Kd.V_reads' HO_1183003.out).2.1)
      rintro e w26 ⟨rfl, hb⟩
      refine ⟨_, rfl, ?_⟩
      have n0_ := Aside0.mk (Kd.V_below (by (with_reducible repeat (first | apply Kd.V_alloc | apply Kd.V_drewN | apply Kd.V_drew)); exact HO_1183003.out) hb)
      have n1_ := Aside0.mk (blk_below (g := gb1182) (o := .cells #[.int .i64 a0_0, .int .u64 a0_1, .string a0_2, .slice A0_3 l0_3.length c0_3] 25 (0, 0)) (by (with_reducible repeat (first | refine blk_drewN ?_ _ | refine blk_drew ?_ | refine blk_alloc ?_ _)); exact BK1182.out) hb)
      have n2_ := Aside0.mk (below_step (by repeat (first | (with_reducible first | exact HB.out | apply below_alloc | apply pw_below_drewN | apply below_drew1 | refine below_set ?_ GE1182.out) | exact HB.out)) hb)
      clear HO_1183003
      clear BK1182
      clear HB
      have HO_1183003 := n0_
      have BK1182 := n1_
      have HB := n2_
      clear n0_ n1_ n2_
      (try clear hb)
      (try clear hb2)
      (try clear hk)
      (try clear hi)
      refine hK.out _ _ ⟨(blk_cell BK1182.out 0).trans rfl, (blk_cell BK1182.out 1).trans rfl, (blk_cell BK1182.out 2).trans rfl, (blk_cell BK1182.out 3).trans rfl⟩ (fun hHeld => ?_)
      clear hK K
      refine norm_ (a' := ?_) ?_ ?_
      rotate_left
      ·show Act.put _ (some 35) _ = _
       simp only [Act.put, List.setIfInBounds_toArray, List.set_cons_zero, List.set_cons_succ, i64_w, i32_w]
       rfl
      refine pure_ (i := 6) (N := some 9) (v := ?_) (a' := ?_) #[true, true, true, true, true, true, true, false] rfl rfl (any_of HT_.out (by kernel_rfl)) (fun _ _ _ h => h) (Or.inl ⟨by rfl, ?_⟩) ?_ ?_
      rotate_left
      ·intro w'
       go_simp
       with_reducible rfl
      rotate_left
      ·simp only [Act.put, List.setIfInBounds_toArray, List.set_cons_zero, List.set_cons_succ, i64_w, i32_w]
       rfl
      refine pure_ (i := 7) (N := some 10) (v := ?_) (a' := ?_) #[true, true, true, true, true, true, true, true] rfl rfl (any_of HT_.out (by kernel_rfl)) (fun _ _ _ h => h) (Or.inl ⟨by rfl, ?_⟩) ?_ ?_
      rotate_left
      ·intro w'
       go_simp
       with_reducible rfl
      rotate_left
      ·simp only [Act.put, List.setIfInBounds_toArray, List.set_cons_zero, List.set_cons_succ, i64_w, i32_w]
       rfl
      refine done_ (done_of HT_.out (by kernel_rfl)) ?_
      go_upto_region 10 with (fail)
      go_cut [54] (fun v54 wc => ∃ (kq : Nat) (x54_19 : Bool), v54 = .bool x54_19 ∧ Aside0 (polyglotlaw17_AmqvalueDepths.j1 kq x2_9 t1187 t1188 x54_19 a0_0 a0_1 a0_2 l0_3 = some r) ∧ Aside0 (kq ≤ kj9) ∧ Aside0 (Kd.V kV 25 wc w.heap.size (fun k_ => (P0_3_ k_ ∨ w.heap.size ≤ k_) ∧ k_ ≠ gb1182) (.slice A0_3 l0_3.length c0_3) l0_3) ∧ Aside0 (wc.heap[gb1182]? = some (.cells #[.int .i64 a0_0, .int .u64 a0_1, .string a0_2, (.slice A0_3 l0_3.length c0_3)] 25 (0, 0))) ∧ Aside0 (Below w.heap.size w wc))
      case first =>
       have H := HC20.out
       clear HC20
       by_cases c27 : t1189 = 0
       ·rw [if_pos c27] at H
        have c27b0 : (t1189 == 0) = true := beq_iff_eq.mpr c27
        have c27b1 : (t1189 != 0) = false := bne_eq_false_iff_eq.mpr c27
        clear c27
        (first | rw [c27b0] | (simp only [i64_w, i32_w]; rw [c27b0]) | skip)
        by_cases c28 : t1190 = 0
        ·rw [if_pos c28] at H
         have c28b0 : (t1190 == 0) = true := beq_iff_eq.mpr c28
         have c28b1 : (t1190 != 0) = false := bne_eq_false_iff_eq.mpr c28
         clear c28
         by_cases c29 : x1_9 < t1187
         ·rw [if_pos c29] at H
          have c29b0 : decide (x1_9 < t1187) = true := decide_eq_true c29
          clear c29
          have H' := Aside0.mk H
          clear H
          go_wp2
          go_meet
          case rel => exact ⟨_, (true), (by first | rfl | (simp; done) | (simp [*]; done)), H', ⟨by have := HJ9.out; first | omega | exact Nat.le_refl _⟩, ⟨by (with_reducible repeat (first | apply Kd.V_alloc | apply Kd.V_drewN | apply Kd.V_drew)); exact HO_1183003.out⟩, ⟨by (with_reducible repeat (first | refine blk_drewN ?_ _ | refine blk_drew ?_ | refine blk_alloc ?_ _)); exact BK1182.out⟩, ⟨by repeat (first | (with_reducible first | exact HB.out | apply below_alloc | apply pw_below_drewN | apply below_drew1 | refine below_set ?_ GE1182.out) | exact HB.out)⟩⟩
         ·rw [if_neg c29] at H
          have c29b0 : decide (x1_9 < t1187) = false := decide_eq_false c29
          clear c29
          by_cases c30 : t1187 < 0
          ·rw [if_pos c30] at H
           have c30b0 : decide (t1187 < 0) = true := decide_eq_true c30
           clear c30
           have H' := Aside0.mk H
           clear H
           go_wp2
           go_meet
           case rel => exact ⟨_, (true), (by first | rfl | (simp; done) | (simp [*]; done)), H', ⟨by have := HJ9.out; first | omega | exact Nat.le_refl _⟩, ⟨by (with_reducible repeat (first | apply Kd.V_alloc | apply Kd.V_drewN | apply Kd.V_drew)); exact HO_1183003.out⟩, ⟨by (with_reducible repeat (first | refine blk_drewN ?_ _ | refine blk_drew ?_ | refine blk_alloc ?_ _)); exact BK1182.out⟩, ⟨by repeat (first | (with_reducible first | exact HB.out | apply below_alloc | apply pw_below_drewN | apply below_drew1 | refine below_set ?_ GE1182.out) | exact HB.out)⟩⟩
          ·rw [if_neg c30] at H
           have c30b0 : decide (t1187 < 0) = false := decide_eq_false c30
           clear c30
           have H' := Aside0.mk H
           clear H
           go_wp2
           go_meet
           case rel => exact ⟨_, (decide (t1188 < 1)), (by first | rfl | (simp; done) | (simp [*]; done)), H', ⟨by have := HJ9.out; first | omega | exact Nat.le_refl _⟩, ⟨by (with_reducible repeat (first | apply Kd.V_alloc | apply Kd.V_drewN | apply Kd.V_drew)); exact HO_1183003.out⟩, ⟨by (with_reducible repeat (first | refine blk_drewN ?_ _ | refine blk_drew ?_ | refine blk_alloc ?_ _)); exact BK1182.out⟩, ⟨by repeat (first | (with_reducible first | exact HB.out | apply below_alloc | apply pw_below_drewN | apply below_drew1 | refine below_set ?_ GE1182.out) | exact HB.out)⟩⟩
        ·rw [if_neg c28] at H
         have c28b0 : (t1190 == 0) = false := beq_eq_false_iff_ne.mpr c28
         have c28b1 : (t1190 != 0) = true := bne_iff_ne.mpr c28
         have H' := Aside0.mk H
         clear H
         go_wp2
         go_meet
         case rel => exact ⟨_, (true), (by first | rfl | (simp; done) | (simp [*]; done)), H', ⟨by have := HJ9.out; first | omega | exact Nat.le_refl _⟩, ⟨by (with_reducible repeat (first | apply Kd.V_alloc | apply Kd.V_drewN | apply Kd.V_drew)); exact HO_1183003.out⟩, ⟨by (with_reducible repeat (first | refine blk_drewN ?_ _ | refine blk_drew ?_ | refine blk_alloc ?_ _)); exact BK1182.out⟩, ⟨by repeat (first | (with_reducible first | exact HB.out | apply below_alloc | apply pw_below_drewN | apply below_drew1 | refine below_set ?_ GE1182.out) | exact HB.out)⟩⟩
       ·rw [if_neg c27] at H
        have c27b0 : (t1189 == 0) = false := beq_eq_false_iff_ne.mpr c27
        have c27b1 : (t1189 != 0) = true := bne_iff_ne.mpr c27
        (first | rw [c27b0] | (simp only [i64_w, i32_w]; rw [c27b0]) | skip)
        by_cases c31 : t1187 < 0
        ·rw [if_pos c31] at H
         have c31b0 : decide (t1187 < 0) = true := decide_eq_true c31
         clear c31
         have H' := Aside0.mk H
         clear H
         go_wp2
         go_meet
         case rel => exact ⟨_, (true), (by first | rfl | (simp; done) | (simp [*]; done)), H', ⟨by have := HJ9.out; first | omega | exact Nat.le_refl _⟩, ⟨by (with_reducible repeat (first | apply Kd.V_alloc | apply Kd.V_drewN | apply Kd.V_drew)); exact HO_1183003.out⟩, ⟨by (with_reducible repeat (first | refine blk_drewN ?_ _ | refine blk_drew ?_ | refine blk_alloc ?_ _)); exact BK1182.out⟩, ⟨by repeat (first | (with_reducible first | exact HB.out | apply below_alloc | apply pw_below_drewN | apply below_drew1 | refine below_set ?_ GE1182.out) | exact HB.out)⟩⟩
        ·rw [if_neg c31] at H
         have c31b0 : decide (t1187 < 0) = false := decide_eq_false c31
         clear c31
         have H' := Aside0.mk H
         clear H
         go_wp2
         go_meet
         case rel => exact ⟨_, (decide (t1188 < 1)), (by first | rfl | (simp; done) | (simp [*]; done)), H', ⟨by have := HJ9.out; first | omega | exact Nat.le_refl _⟩, ⟨by (with_reducible repeat (first | apply Kd.V_alloc | apply Kd.V_drewN | apply Kd.V_drew)); exact HO_1183003.out⟩, ⟨by (with_reducible repeat (first | refine blk_drewN ?_ _ | refine blk_drew ?_ | refine blk_alloc ?_ _)); exact BK1182.out⟩, ⟨by repeat (first | (with_reducible first | exact HB.out | apply below_alloc | apply pw_below_drewN | apply below_drew1 | refine below_set ?_ GE1182.out) | exact HB.out)⟩⟩
      case rest =>
       clear HC20
       try clear c1
       try clear c2
       try clear p2
       try clear c3
       try clear c4
       try clear c5
       try clear c7
       try clear c12
       try clear c15
       try clear c15b0
       try clear c19
       try clear c22
       try clear c27
       try clear c27b0
       try clear c27b1
       try clear c28
       try clear c28b0
       try clear c28b1
       try clear c29
       try clear c29b0
       try clear c30
       try clear c30b0
       try clear c31
       try clear c31b0
       try clear hcz13_0
       try clear hcz13_1
       try clear hcz13_2
       try clear hcz13_3
       try clear hfz13_0
       try clear hfz13_1
       try clear hfz13_2
       try clear hfz13_3
       try clear p2
       obtain ⟨kq, x54_19, rfl, HA, HJ19, HO_1183003, BK1182, HB⟩ := hcut
       cases kq with
       | zero => exact absurd HA.out (by simp [polyglotlaw17_AmqvalueDepths.j1])
       | succ kj19 =>
        have H := HA.out
        clear HA
        simp only [polyglotlaw17_AmqvalueDepths.j1] at H
        by_cases c32 : x54_19 = true
        ·subst c32
         have H1 : (none) = some r := by rw [if_pos rfl] at H; exact H
         clear H
         have H := H1
         clear H1
         exact absurd H (by simp)
        ·replace c32 := Bool.eq_false_iff.mpr c32
         subst c32
         have H1 : ((polyglotkit_L.f (([(⟨a0_0, a0_1, a0_2, l0_3⟩ : Vl)] : List (Vl)))).bind fun bt1194 => ((amqvalue_Depth.f kj19 bt1194.1 bt1194.2.1 bt1194.2.2.1 bt1194.2.2.2).bind fun t1201 => (if t1201 = (wrap64 (t1187 + 1)) then ((amqvalue_Count.f kj19 bt1194.1 bt1194.2.1 bt1194.2.2.1 bt1194.2.2.2).bind fun t1202 => (if t1202 = (wrap64 (t1188 + 1)) then ((amqvalue_Same.f kj19 a0_0 a0_1 a0_2 l0_3 bt1194.1 bt1194.2.1 bt1194.2.2.1 bt1194.2.2.2).bind fun t1203 => (polyglotlaw17_AmqvalueDepths.j2 kj19 x2_9 t1203 a0_0 a0_1 a0_2 l0_3 bt1194.1 bt1194.2.1 bt1194.2.2.1 bt1194.2.2.2)) else (polyglotlaw17_AmqvalueDepths.j2 kj19 x2_9 true a0_0 a0_1 a0_2 l0_3 bt1194.1 bt1194.2.1 bt1194.2.2.1 bt1194.2.2.2))) else (polyglotlaw17_AmqvalueDepths.j2 kj19 x2_9 true a0_0 a0_1 a0_2 l0_3 bt1194.1 bt1194.2.1 bt1194.2.2.1 bt1194.2.2.2)))) = some r := by rw [if_neg (show ¬ (false = true) by decide)] at H; exact H
         clear H
         have H := H1
         clear H1
         obtain ⟨y1191, hy1191⟩ : ∃ y_ : List (Vl), y_ = (([(⟨a0_0, a0_1, a0_2, l0_3⟩ : Vl)] : List (Vl))) := ⟨_, rfl⟩
         replace H : ((polyglotkit_L.f y1191).bind fun bt1194 => ((amqvalue_Depth.f kj19 bt1194.1 bt1194.2.1 bt1194.2.2.1 bt1194.2.2.2).bind fun t1201 => (if t1201 = (wrap64 (t1187 + 1)) then ((amqvalue_Count.f kj19 bt1194.1 bt1194.2.1 bt1194.2.2.1 bt1194.2.2.2).bind fun t1202 => (if t1202 = (wrap64 (t1188 + 1)) then ((amqvalue_Same.f kj19 a0_0 a0_1 a0_2 l0_3 bt1194.1 bt1194.2.1 bt1194.2.2.1 bt1194.2.2.2).bind fun t1203 => (polyglotlaw17_AmqvalueDepths.j2 kj19 x2_9 t1203 a0_0 a0_1 a0_2 l0_3 bt1194.1 bt1194.2.1 bt1194.2.2.1 bt1194.2.2.2)) else (polyglotlaw17_AmqvalueDepths.j2 kj19 x2_9 true a0_0 a0_1 a0_2 l0_3 bt1194.1 bt1194.2.1 bt1194.2.2.1 bt1194.2.2.2))) else (polyglotlaw17_AmqvalueDepths.j2 kj19 x2_9 true a0_0 a0_1 a0_2 l0_3 bt1194.1 bt1194.2.1 bt1194.2.2.1 bt1194.2.2.2)))) = some r := by first | (rw [hy1191]; with_reducible exact H) | (have H2_ := (Option.bind_some _ _).symm.trans H; rw [hy1191]; with_reducible exact H2_) | (have H2_ := (Option.bind_some _ _).symm.trans H; with_reducible exact H2_) | with_reducible exact H | (rw [hy1191]; exact H) | exact H
         have Ny1191 := Aside0.mk hy1191
         clear hy1191
         replace H := Option.bind_eq_some_iff.mp H
         obtain ⟨⟨t1194, t1195, t1196, t1197⟩, A330, H⟩ := H
         replace H : ((amqvalue_Depth.f kj19 t1194 t1195 t1196 t1197).bind fun t1201 => (if t1201 = (wrap64 (t1187 + 1)) then ((amqvalue_Count.f kj19 t1194 t1195 t1196 t1197).bind fun t1202 => (if t1202 = (wrap64 (t1188 + 1)) then ((amqvalue_Same.f kj19 a0_0 a0_1 a0_2 l0_3 t1194 t1195 t1196 t1197).bind fun t1203 => (polyglotlaw17_AmqvalueDepths.j2 kj19 x2_9 t1203 a0_0 a0_1 a0_2 l0_3 t1194 t1195 t1196 t1197)) else (polyglotlaw17_AmqvalueDepths.j2 kj19 x2_9 true a0_0 a0_1 a0_2 l0_3 t1194 t1195 t1196 t1197))) else (polyglotlaw17_AmqvalueDepths.j2 kj19 x2_9 true a0_0 a0_1 a0_2 l0_3 t1194 t1195 t1196 t1197))) = some r := H
         have A33 := Aside0.mk A330
         clear A330
         have HC34 := Aside0.mk H
         clear H
         have hcz35_0 : wc.cell? ⟨gb1182, 0, none⟩ = some (.int .i64 a0_0) := (blk_cell BK1182.out 0).trans rfl
         have hcz35_1 : wc.cell? ⟨gb1182, 1, none⟩ = some (.int .u64 a0_1) := (blk_cell BK1182.out 1).trans rfl
         have hcz35_2 : wc.cell? ⟨gb1182, 2, none⟩ = some (.string a0_2) := (blk_cell BK1182.out 2).trans rfl
         have hcz35_3 : wc.cell? ⟨gb1182, 3, none⟩ = some (.slice A0_3 l0_3.length c0_3) := (blk_cell BK1182.out 3).trans rfl
         have hfz35_0 := blk_frozen BK1182.out 0
         have hfz35_1 := blk_frozen BK1182.out 1
         have hfz35_2 := blk_frozen BK1182.out 2
         have hfz35_3 := blk_frozen BK1182.out 3
         go_upto_region 13 with (first | ((with_reducible refine gate_dst (N := 56) rfl ?_); refine Kd.N_lit kV _ 25 ?hg (N' := 56) ?hd (xs := ([(⟨a0_0, a0_1, a0_2, l0_3⟩ : Vl)] : List (Vl))) (inner := [.int .i64 a0_0, .int .u64 a0_1, .string a0_2, .slice A0_3 l0_3.length c0_3]) (ok := (fun k_ => (P0_3_ k_ ∨ w.heap.size ≤ k_) ∧ k_ ≠ gb1182)) (okp := (fun k_ => (P0_3_ k_ ∨ w.heap.size ≤ k_) ∧ k_ ≠ gb1182)) ?hr ?hp (fun _ hk => hk) ((show ∀ k_, wc.heap.size ≤ k_ → (fun k_ => (P0_3_ k_ ∨ w.heap.size ≤ k_) ∧ k_ ≠ gb1182) k_ from fun k_ hk => ⟨(.inr (Nat.le_trans (below_size (by repeat (first | (with_reducible first | exact HB.out | apply below_alloc | apply pw_below_drewN | apply below_drew1 | refine below_set ?_ GE1182.out) | exact HB.out))) hk)), Kd.freshB (g := gb1182) (o := .cells #[.int .i64 a0_0, .int .u64 a0_1, .string a0_2, .slice A0_3 l0_3.length c0_3] 25 (0, 0)) (by (with_reducible repeat (first | refine blk_drewN ?_ _ | refine blk_drew ?_ | refine blk_alloc ?_ _)); exact BK1182.out) k_ hk⟩) _ (Nat.le_refl _)) (Below.refl _ _) (Nat.le_refl _) (by simp) ?_; (case hd => rfl); (case hg => rfl); (case hr => first | (go_simp; done) | (go_simp; rfl)); (case hp => exact (Reps.c4 (show Kd.FK kV _ _ (⟨a0_0, a0_1, a0_2, l0_3⟩ : Vl) [.int .i64 a0_0, .int .u64 a0_1, .string a0_2, .slice A0_3 l0_3.length c0_3] from (kV_mkF _ _ (⟨a0_0, a0_1, a0_2, l0_3⟩ : Vl) (Kd.V_reads' (Kd.V_mono (ok' := (fun k_ => (P0_3_ k_ ∨ w.heap.size ≤ k_) ∧ k_ ≠ gb1182)) (HO_1183003.out) (fun k_ hk => ⟨hk.1, hk.2⟩))).2.1 (Kd.V_F (Kd.V_mono (ok' := (fun k_ => (P0_3_ k_ ∨ w.heap.size ≤ k_) ∧ k_ ≠ gb1182)) (HO_1183003.out) (fun k_ hk => ⟨hk.1, hk.2⟩))))) (Reps.none _ _))); intro v1192 w36 ho37 hb hg_ hnew_; clear hg_ hnew_; (first | rw [← Ny1191.out] at ho37 | (simp only [Int.reduceToNat] at ho37; rw [← Ny1191.out] at ho37)); have n0_ := Aside0.mk (Kd.V_elder' (by (with_reducible repeat (first | apply Kd.V_alloc | apply Kd.V_drewN | apply Kd.V_drew)); exact HO_1183003.out) (Kd.N_base ho37) hb); have n1_ := Aside0.mk (Kd.N_lower ho37 (below_size (by repeat (first | (with_reducible first | exact HB.out | apply below_alloc | apply pw_below_drewN | apply below_drew1 | refine below_set ?_ GE1182.out) | exact HB.out)))); have n2_ := Aside0.mk (blk_below (g := gb1182) (o := .cells #[.int .i64 a0_0, .int .u64 a0_1, .string a0_2, .slice A0_3 l0_3.length c0_3] 25 (0, 0)) (by (with_reducible repeat (first | refine blk_drewN ?_ _ | refine blk_drew ?_ | refine blk_alloc ?_ _)); exact BK1182.out) hb); have n3_ := Aside0.mk (below_step (by repeat (first | (with_reducible first | exact HB.out | apply below_alloc | apply pw_below_drewN | apply below_drew1 | refine below_set ?_ GE1182.out) | exact HB.out)) hb); clear HO_1183003; clear BK1182; clear HB; have HO_1183003 := n0_; have HO1193 := n1_; have BK1182 := n2_; have HB := n3_; clear n0_ n1_ n2_ n3_; clear hb ho37; obtain ⟨Ao38, co38, eo38⟩ := Kd.N_slice HO1193.out; subst eo38) | ((with_reducible refine gate_callee (f := 39) rfl ?_); refine goesL_ (some 57) rfl rfl Tryd.func39 (by kernel_rfl) rfl #[.slice Ao38 y1191.length co38] rfl (by (try simp only [List.map_toArray, List.map_cons, List.map_nil]); first | done | rfl | (simp only [List.length_drop, List.length_take]; rfl)) ?_; (with_reducible refine (polyglotkit_L.calls (fun k_ => ((P0_3_ k_ ∨ w.heap.size ≤ k_) ∧ k_ ≠ gb1182)) _ _ y1191 t1194 t1195 t1196 t1197 _ ?side1 A33.out).mono ?_); (case side1 => exact Kd.N_V (HO1193.out)); rintro e w39 ⟨v1198, rfl, ho0, hb⟩; refine ⟨_, rfl, ?_⟩; have n0_ := Aside0.mk (Kd.V_below (by (with_reducible repeat (first | apply Kd.V_alloc | apply Kd.V_drewN | apply Kd.V_drew)); exact HO_1183003.out) hb); have n1_ := Aside0.mk (Kd.N_below (by (with_reducible repeat (first | apply Kd.N_alloc | apply Kd.N_drewN | apply Kd.N_drew)); exact HO1193.out) hb); have n2_ := Aside0.mk (Kd.V_lower (Kd.V_mono (ok' := fun k_ => (P0_3_ k_ ∨ w.heap.size ≤ k_) ∧ k_ ≠ gb1182) ho0 (fun k_ hk_ => ⟨Or.elim hk_ (fun hs_ => hs_.1) (fun hn_ => (.inr (Nat.le_trans (below_size (by repeat (first | (with_reducible first | exact HB.out | apply below_alloc | apply pw_below_drewN | apply below_drew1 | refine below_set ?_ GE1182.out) | exact HB.out))) hn_))), Or.elim hk_ (fun hs_ => hs_.2) (fun hn_ => (Kd.freshB (g := gb1182) (o := .cells #[.int .i64 a0_0, .int .u64 a0_1, .string a0_2, .slice A0_3 l0_3.length c0_3] 25 (0, 0)) (by (with_reducible repeat (first | refine blk_drewN ?_ _ | refine blk_drew ?_ | refine blk_alloc ?_ _)); exact BK1182.out) k_ hn_))⟩)) (below_size (by repeat (first | (with_reducible first | exact HB.out | apply below_alloc | apply pw_below_drewN | apply below_drew1 | refine below_set ?_ GE1182.out) | exact HB.out)))); have n3_ := Aside0.mk (blk_below (g := gb1182) (o := .cells #[.int .i64 a0_0, .int .u64 a0_1, .string a0_2, .slice A0_3 l0_3.length c0_3] 25 (0, 0)) (by (with_reducible repeat (first | refine blk_drewN ?_ _ | refine blk_drew ?_ | refine blk_alloc ?_ _)); exact BK1182.out) hb); have n4_ := Aside0.mk (below_step (by repeat (first | (with_reducible first | exact HB.out | apply below_alloc | apply pw_below_drewN | apply below_drew1 | refine below_set ?_ GE1182.out) | exact HB.out)) hb); clear HO_1183003; clear HO1193; clear BK1182; clear HB; have HO_1183003 := n0_; have HO1193 := n1_; have HO1199 := n2_; have BK1182 := n3_; have HB := n4_; clear n0_ n1_ n2_ n3_ n4_; (try clear hb); (try clear hb2); (try clear hk); (try clear hi); (try clear ho0)) | ((with_reducible refine gate_dst (N := 11) rfl ?_); refine box_event ?hg (N := 11) ?hd (cs := #[.int .i64 0, .int .u64 0, .string (⟨#[]⟩ : ByteArray), .slice none 0 0]) (t := 25) ?hr ?_; (case hd => rfl); (case hg => rfl); (case hr => first | (go_simp; done) | (go_simp; rfl)); intro gb1200 hg w40 hbox hb; have n0_ := Aside0.mk (Kd.V_below (Kd.V_elderB (by (with_reducible repeat (first | apply Kd.V_alloc | apply Kd.V_drewN | apply Kd.V_drew)); exact HO_1183003.out) gb1200 (Nat.le_of_eq hg.symm)) hb); have n1_ := Aside0.mk (Kd.N_below (Kd.N_elderB (by (with_reducible repeat (first | apply Kd.N_alloc | apply Kd.N_drewN | apply Kd.N_drew)); exact HO1193.out) gb1200 (Nat.le_of_eq hg.symm)) hb); have n2_ := Aside0.mk (Kd.V_below (Kd.V_elderB (by (with_reducible repeat (first | apply Kd.V_alloc | apply Kd.V_drewN | apply Kd.V_drew)); exact HO1199.out) gb1200 (Nat.le_of_eq hg.symm)) hb); have n3_ := Aside0.mk (blk_below (g := gb1182) (o := .cells #[.int .i64 a0_0, .int .u64 a0_1, .string a0_2, .slice A0_3 l0_3.length c0_3] 25 (0, 0)) (by (with_reducible repeat (first | refine blk_drewN ?_ _ | refine blk_drew ?_ | refine blk_alloc ?_ _)); exact BK1182.out) hb); have n4_ := Aside0.mk (below_step (by repeat (first | (with_reducible first | exact HB.out | apply below_alloc | apply pw_below_drewN | apply below_drew1 | refine below_set ?_ GE1182.out) | exact HB.out)) hb); have n5_ := Aside0.mk (hbox); have n6_ := Aside0.mk ((by rw [hg]; exact (below_size (by repeat (first | (with_reducible first | exact HB.out | apply below_alloc | apply pw_below_drewN | apply below_drew1 | refine below_set ?_ GE1182.out) | exact HB.out))) : w.heap.size ≤ gb1200)); have n7_ := Aside0.mk ((by rw [hg]; exact (below_size (by repeat (first | (with_reducible first | exact HB.out | apply below_alloc | apply pw_below_drewN | apply below_drew1 | refine below_set ?_ GE1182.out) | exact HB.out))) : w.heap.size ≤ gb1200)); have n8_ := Aside0.mk ((by rw [hg]; exact Nat.ne_of_lt (blk_lt (g := gb1182) (o := .cells #[.int .i64 a0_0, .int .u64 a0_1, .string a0_2, .slice A0_3 l0_3.length c0_3] 25 (0, 0)) (by (with_reducible repeat (first | refine blk_drewN ?_ _ | refine blk_drew ?_ | refine blk_alloc ?_ _)); exact BK1182.out)) : gb1182 ≠ gb1200)); have n9_ := Aside0.mk ((by rw [hg]; exact Nat.ne_of_gt (blk_lt (g := gb1182) (o := .cells #[.int .i64 a0_0, .int .u64 a0_1, .string a0_2, .slice A0_3 l0_3.length c0_3] 25 (0, 0)) (by (with_reducible repeat (first | refine blk_drewN ?_ _ | refine blk_drew ?_ | refine blk_alloc ?_ _)); exact BK1182.out)) : gb1200 ≠ gb1182)); clear HO_1183003; clear HO1193; clear HO1199; clear BK1182; clear HB; have HO_1183003 := n0_; have HO1193 := n1_; have HO1199 := n2_; have BK1182 := n3_; have HB := n4_; have BK1200 := n5_; have GW1200 := n6_; have GE1200 := n7_; have NB1182_1200 := n8_; have NB1200_1182 := n9_; clear n0_ n1_ n2_ n3_ n4_ n5_ n6_ n7_ n8_ n9_; clear hb hbox hg; have hnb41 := NB1200_1182.out; have hnc41 := NB1182_1200.out; have hcz42_0 : w40.cell? ⟨gb1200, 0, none⟩ = some (.int .i64 0) := (blk_cell BK1200.out 0).trans rfl; have hcz42_1 : w40.cell? ⟨gb1200, 1, none⟩ = some (.int .u64 0) := (blk_cell BK1200.out 1).trans rfl; have hcz42_2 : w40.cell? ⟨gb1200, 2, none⟩ = some (.string (⟨#[]⟩ : ByteArray)) := (blk_cell BK1200.out 2).trans rfl; have hcz42_3 : w40.cell? ⟨gb1200, 3, none⟩ = some (.slice none 0 0) := (blk_cell BK1200.out 3).trans rfl; have hfz42_0 := blk_frozen BK1200.out 0; have hfz42_1 := blk_frozen BK1200.out 1; have hfz42_2 := blk_frozen BK1200.out 2; have hfz42_3 := blk_frozen BK1200.out 3; obtain ⟨Ao43, co43, eo43⟩ := Kd.V_slice HO1199.out; subst eo43))
         (try simp only [Act.put, List.setIfInBounds_toArray, List.set_cons_zero, List.set_cons_succ])
         go_cut [74] (fun v74 wc => ∃ (kq : Nat) (x74_33 : Bool), v74 = .bool x74_33 ∧ Aside0 (polyglotlaw17_AmqvalueDepths.j2 kq x2_9 x74_33 a0_0 a0_1 a0_2 l0_3 t1194 t1195 t1196 t1197 = some r) ∧ Aside0 (kq ≤ kj19) ∧ Aside0 (Kd.V kV 25 wc w.heap.size (fun k_ => (P0_3_ k_ ∨ w.heap.size ≤ k_) ∧ k_ ≠ gb1182 ∧ k_ ≠ gb1200) (.slice A0_3 l0_3.length c0_3) l0_3) ∧ Aside0 (Kd.V kV 25 wc w.heap.size (fun k_ => (P0_3_ k_ ∨ w.heap.size ≤ k_) ∧ k_ ≠ gb1182 ∧ k_ ≠ gb1200) (.slice Ao43 t1197.length co43) t1197) ∧ Aside0 (wc.heap[gb1182]? = some (.cells #[.int .i64 a0_0, .int .u64 a0_1, .string a0_2, (.slice A0_3 l0_3.length c0_3)] 25 (0, 0))) ∧ Aside0 (wc.heap[gb1200]? = some (.cells #[.int .i64 t1194, .int .u64 t1195, .string t1196, (.slice Ao43 t1197.length co43)] 25 (0, 0))) ∧ Aside0 (Below w.heap.size w wc))
         case first =>
          have H := HC34.out
          clear HC34
          replace H := Option.bind_eq_some_iff.mp H
          obtain ⟨t1201, A440, H⟩ := H
          replace H : (if t1201 = (wrap64 (t1187 + 1)) then ((amqvalue_Count.f kj19 t1194 t1195 t1196 t1197).bind fun t1202 => (if t1202 = (wrap64 (t1188 + 1)) then ((amqvalue_Same.f kj19 a0_0 a0_1 a0_2 l0_3 t1194 t1195 t1196 t1197).bind fun t1203 => (polyglotlaw17_AmqvalueDepths.j2 kj19 x2_9 t1203 a0_0 a0_1 a0_2 l0_3 t1194 t1195 t1196 t1197)) else (polyglotlaw17_AmqvalueDepths.j2 kj19 x2_9 true a0_0 a0_1 a0_2 l0_3 t1194 t1195 t1196 t1197))) else (polyglotlaw17_AmqvalueDepths.j2 kj19 x2_9 true a0_0 a0_1 a0_2 l0_3 t1194 t1195 t1196 t1197)) = some r := H
          have A44 := Aside0.mk A440
          clear A440
          by_cases c45 : t1201 = (wrap64 (t1187 + 1))
          ·rw [if_pos c45] at H
           have c45b0 : (t1201 == (wrap64 (t1187 + 1))) = true := beq_iff_eq.mpr c45
           have c45b1 : (t1201 != (wrap64 (t1187 + 1))) = false := bne_eq_false_iff_eq.mpr c45
           clear c45
           (first | rw [c45b0] | (simp only [i64_w, i32_w]; rw [c45b0]) | skip)
           replace H := Option.bind_eq_some_iff.mp H
           obtain ⟨t1202, A460, H⟩ := H
           replace H : (if t1202 = (wrap64 (t1188 + 1)) then ((amqvalue_Same.f kj19 a0_0 a0_1 a0_2 l0_3 t1194 t1195 t1196 t1197).bind fun t1203 => (polyglotlaw17_AmqvalueDepths.j2 kj19 x2_9 t1203 a0_0 a0_1 a0_2 l0_3 t1194 t1195 t1196 t1197)) else (polyglotlaw17_AmqvalueDepths.j2 kj19 x2_9 true a0_0 a0_1 a0_2 l0_3 t1194 t1195 t1196 t1197)) = some r := H
           have A46 := Aside0.mk A460
           clear A460
           by_cases c47 : t1202 = (wrap64 (t1188 + 1))
           ·rw [if_pos c47] at H
            have c47b0 : (t1202 == (wrap64 (t1188 + 1))) = true := beq_iff_eq.mpr c47
            have c47b1 : (t1202 != (wrap64 (t1188 + 1))) = false := bne_eq_false_iff_eq.mpr c47
            clear c47
            replace H := Option.bind_eq_some_iff.mp H
            obtain ⟨t1203, A480, H⟩ := H
            replace H : (polyglotlaw17_AmqvalueDepths.j2 kj19 x2_9 t1203 a0_0 a0_1 a0_2 l0_3 t1194 t1195 t1196 t1197) = some r := H
            have A48 := Aside0.mk A480
            clear A480
            have H' := Aside0.mk H
            clear H
            have hnb49 := NB1200_1182.out
            have hnc49 := NB1182_1200.out
            have hcz50_0 : w40.cell? ⟨gb1200, 0, none⟩ = some (.int .i64 0) := (blk_cell BK1200.out 0).trans rfl
            have hcz50_1 : w40.cell? ⟨gb1200, 1, none⟩ = some (.int .u64 0) := (blk_cell BK1200.out 1).trans rfl
            have hcz50_2 : w40.cell? ⟨gb1200, 2, none⟩ = some (.string (⟨#[]⟩ : ByteArray)) := (blk_cell BK1200.out 2).trans rfl
            have hcz50_3 : w40.cell? ⟨gb1200, 3, none⟩ = some (.slice none 0 0) := (blk_cell BK1200.out 3).trans rfl
            have hfz50_0 := blk_frozen BK1200.out 0
            have hfz50_1 := blk_frozen BK1200.out 1
            have hfz50_2 := blk_frozen BK1200.out 2
            have hfz50_3 := blk_frozen BK1200.out 3
            go_wp2_with (first | ((with_reducible refine gate_callee (f := 50) rfl ?_); refine goesL_ (some 59) rfl rfl Tryd.func50 (by kernel_rfl) rfl #[.agg #[.int .i64 t1194, .int .u64 t1195, .string t1196, .slice Ao43 t1197.length co43]] rfl (by (try simp only [List.map_toArray, List.map_cons, List.map_nil]); first | done | rfl | (simp only [List.length_drop, List.length_take]; rfl)) ?_; (with_reducible refine (amqvalue_Depth.calls kj19 t1194 t1195 t1196 _ _ t1197 t1201 _ ?side1 ?side2 A44.out).mono ?_); (case side1 => refine (Kd.V_reads' (e := 25) (base := w.heap.size) (ok := fun k_ => (((P0_3_ k_ ∨ w.heap.size ≤ k_) ∧ k_ ≠ gb1182) ∧ k_ ≠ gb1200)) (n := t1197.length) (c := co43) ?_).2.2; exact (by (with_reducible repeat (first | apply Kd.V_alloc | apply Kd.V_drewN | apply Kd.V_drew)); exact (Kd.V_mono (Kd.V_far (p := ⟨gb1200, 3, none⟩) (Kd.V_far (p := ⟨gb1200, 2, none⟩) (Kd.V_far (p := ⟨gb1200, 1, none⟩) (Kd.V_far (p := ⟨gb1200, 0, none⟩) (Kd.V_mono HO1199.out (fun k_ hk => (⟨hk, hk.2⟩ : _ ∧ k_ ≠ gb1200))) (fun _ hk => hk.2) (.int .i64 t1194)) (fun _ hk => hk.2) (.int .u64 t1195)) (fun _ hk => hk.2) (.string t1196)) (fun _ hk => hk.2) (.slice Ao43 t1197.length co43)) (fun _ h_ => h_.1)))); (case side2 => exact (Kd.V_reads' HO1199.out).2.1); rintro e w51 ⟨rfl, hb⟩; refine ⟨_, rfl, ?_⟩; have n0_ := Aside0.mk (Kd.V_below (by (with_reducible repeat (first | apply Kd.V_alloc | apply Kd.V_drewN | apply Kd.V_drew)); exact (Kd.V_mono (Kd.V_far (p := ⟨gb1200, 3, none⟩) (Kd.V_far (p := ⟨gb1200, 2, none⟩) (Kd.V_far (p := ⟨gb1200, 1, none⟩) (Kd.V_far (p := ⟨gb1200, 0, none⟩) (Kd.V_mono HO_1183003.out (fun k_ hk => (⟨hk, hk.2⟩ : _ ∧ k_ ≠ gb1200))) (fun _ hk => hk.2) (.int .i64 t1194)) (fun _ hk => hk.2) (.int .u64 t1195)) (fun _ hk => hk.2) (.string t1196)) (fun _ hk => hk.2) (.slice Ao43 t1197.length co43)) (fun _ h_ => h_.1))) hb); have n1_ := Aside0.mk (Kd.N_below (by (with_reducible repeat (first | apply Kd.N_alloc | apply Kd.N_drewN | apply Kd.N_drew)); exact (Kd.N_mono (Kd.N_far (p := ⟨gb1200, 3, none⟩) (Kd.N_far (p := ⟨gb1200, 2, none⟩) (Kd.N_far (p := ⟨gb1200, 1, none⟩) (Kd.N_far (p := ⟨gb1200, 0, none⟩) (Kd.N_mono HO1193.out (fun k_ hk => (⟨hk, hk.2⟩ : _ ∧ k_ ≠ gb1200))) (fun _ hk => hk.2) (.int .i64 t1194)) (fun _ hk => hk.2) (.int .u64 t1195)) (fun _ hk => hk.2) (.string t1196)) (fun _ hk => hk.2) (.slice Ao43 t1197.length co43)) (fun _ h_ => h_.1))) hb); have n2_ := Aside0.mk (Kd.V_below (by (with_reducible repeat (first | apply Kd.V_alloc | apply Kd.V_drewN | apply Kd.V_drew)); exact (Kd.V_mono (Kd.V_far (p := ⟨gb1200, 3, none⟩) (Kd.V_far (p := ⟨gb1200, 2, none⟩) (Kd.V_far (p := ⟨gb1200, 1, none⟩) (Kd.V_far (p := ⟨gb1200, 0, none⟩) (Kd.V_mono HO1199.out (fun k_ hk => (⟨hk, hk.2⟩ : _ ∧ k_ ≠ gb1200))) (fun _ hk => hk.2) (.int .i64 t1194)) (fun _ hk => hk.2) (.int .u64 t1195)) (fun _ hk => hk.2) (.string t1196)) (fun _ hk => hk.2) (.slice Ao43 t1197.length co43)) (fun _ h_ => h_.1))) hb); have n3_ := Aside0.mk (blk_below (g := gb1182) (o := .cells #[.int .i64 a0_0, .int .u64 a0_1, .string a0_2, .slice A0_3 l0_3.length c0_3] 25 (0, 0)) (by (with_reducible repeat (first | refine blk_drewN ?_ _ | refine blk_drew ?_ | refine blk_alloc ?_ _)); refine blk_far ?_ NB1182_1200.out _; (with_reducible repeat (first | refine blk_drewN ?_ _ | refine blk_drew ?_ | refine blk_alloc ?_ _)); refine blk_far ?_ NB1182_1200.out _; (with_reducible repeat (first | refine blk_drewN ?_ _ | refine blk_drew ?_ | refine blk_alloc ?_ _)); refine blk_far ?_ NB1182_1200.out _; (with_reducible repeat (first | refine blk_drewN ?_ _ | refine blk_drew ?_ | refine blk_alloc ?_ _)); refine blk_far ?_ NB1182_1200.out _; (with_reducible repeat (first | refine blk_drewN ?_ _ | refine blk_drew ?_ | refine blk_alloc ?_ _)); exact BK1182.out) hb); have n4_ := Aside0.mk (blk_below (g := gb1200) (o := .cells #[.int .i64 t1194, .int .u64 t1195, .string t1196, .slice Ao43 t1197.length co43] 25 (0, 0)) (by (with_reducible repeat (first | refine blk_drewN ?_ _ | refine blk_drew ?_ | refine blk_alloc ?_ _)); refine blk_put (cs := #[.int .i64 t1194, .int .u64 t1195, .string t1196, .slice none 0 0]) ?_ 3 _ rfl; (with_reducible repeat (first | refine blk_drewN ?_ _ | refine blk_drew ?_ | refine blk_alloc ?_ _)); refine blk_put (cs := #[.int .i64 t1194, .int .u64 t1195, .string (⟨#[]⟩ : ByteArray), .slice none 0 0]) ?_ 2 _ rfl; (with_reducible repeat (first | refine blk_drewN ?_ _ | refine blk_drew ?_ | refine blk_alloc ?_ _)); refine blk_put (cs := #[.int .i64 t1194, .int .u64 0, .string (⟨#[]⟩ : ByteArray), .slice none 0 0]) ?_ 1 _ rfl; (with_reducible repeat (first | refine blk_drewN ?_ _ | refine blk_drew ?_ | refine blk_alloc ?_ _)); refine blk_put (cs := #[.int .i64 0, .int .u64 0, .string (⟨#[]⟩ : ByteArray), .slice none 0 0]) ?_ 0 _ rfl; (with_reducible repeat (first | refine blk_drewN ?_ _ | refine blk_drew ?_ | refine blk_alloc ?_ _)); exact BK1200.out) hb); have n5_ := Aside0.mk (below_step (by repeat (first | (with_reducible first | exact HB.out | apply below_alloc | apply pw_below_drewN | apply below_drew1 | refine below_set ?_ GE1182.out | refine below_set ?_ GE1200.out) | exact HB.out)) hb); clear HO_1183003; clear HO1193; clear HO1199; clear BK1182; clear BK1200; clear HB; have HO_1183003 := n0_; have HO1193 := n1_; have HO1199 := n2_; have BK1182 := n3_; have BK1200 := n4_; have HB := n5_; clear n0_ n1_ n2_ n3_ n4_ n5_; (try clear hb); (try clear hb2); (try clear hk); (try clear hi); have hcz52_0 : w51.cell? ⟨gb1200, 0, none⟩ = some (.int .i64 t1194) := (blk_cell BK1200.out 0).trans rfl; have hcz52_1 : w51.cell? ⟨gb1200, 1, none⟩ = some (.int .u64 t1195) := (blk_cell BK1200.out 1).trans rfl; have hcz52_2 : w51.cell? ⟨gb1200, 2, none⟩ = some (.string t1196) := (blk_cell BK1200.out 2).trans rfl; have hcz52_3 : w51.cell? ⟨gb1200, 3, none⟩ = some (.slice Ao43 t1197.length co43) := (blk_cell BK1200.out 3).trans rfl; have hfz52_0 := blk_frozen BK1200.out 0; have hfz52_1 := blk_frozen BK1200.out 1; have hfz52_2 := blk_frozen BK1200.out 2; have hfz52_3 := blk_frozen BK1200.out 3) | (go_at_call 33; (with_reducible refine (amqvalue_Count.calls kj19 t1194 t1195 t1196 _ _ t1197 t1202 _ ?side1 ?side2 A46.out).mono ?_); (case side1 => repeat (first | exact (Kd.V_reads' HO1199.out).2.2 | (with_reducible refine Kd.C_alloc ?_ _) | (with_reducible refine Kd.C_drewN ?_ _) | (with_reducible refine Kd.C_drew ?_))); (case side2 => exact (Kd.V_reads' HO1199.out).2.1); rintro e w53 ⟨rfl, hb⟩; have n0_ := Aside0.mk (Kd.V_below (by (with_reducible repeat (first | apply Kd.V_alloc | apply Kd.V_drewN | apply Kd.V_drew)); exact HO_1183003.out) hb); have n1_ := Aside0.mk (Kd.N_below (by (with_reducible repeat (first | apply Kd.N_alloc | apply Kd.N_drewN | apply Kd.N_drew)); exact HO1193.out) hb); have n2_ := Aside0.mk (Kd.V_below (by (with_reducible repeat (first | apply Kd.V_alloc | apply Kd.V_drewN | apply Kd.V_drew)); exact HO1199.out) hb); have n3_ := Aside0.mk (blk_below (g := gb1182) (o := .cells #[.int .i64 a0_0, .int .u64 a0_1, .string a0_2, .slice A0_3 l0_3.length c0_3] 25 (0, 0)) (by (with_reducible repeat (first | refine blk_drewN ?_ _ | refine blk_drew ?_ | refine blk_alloc ?_ _)); exact BK1182.out) hb); have n4_ := Aside0.mk (blk_below (g := gb1200) (o := .cells #[.int .i64 t1194, .int .u64 t1195, .string t1196, .slice Ao43 t1197.length co43] 25 (0, 0)) (by (with_reducible repeat (first | refine blk_drewN ?_ _ | refine blk_drew ?_ | refine blk_alloc ?_ _)); exact BK1200.out) hb); have n5_ := Aside0.mk (below_step (by repeat (first | (with_reducible first | exact HB.out | apply below_alloc | apply pw_below_drewN | apply below_drew1 | refine below_set ?_ GE1182.out | refine below_set ?_ GE1200.out) | exact HB.out)) hb); clear HO_1183003; clear HO1193; clear HO1199; clear BK1182; clear BK1200; clear HB; have HO_1183003 := n0_; have HO1193 := n1_; have HO1199 := n2_; have BK1182 := n3_; have BK1200 := n4_; have HB := n5_; clear n0_ n1_ n2_ n3_ n4_ n5_; (try clear hb); (try clear hb2); (try clear hk); (try clear hi); have hcz54_0 : w53.cell? ⟨gb1182, 0, none⟩ = some (.int .i64 a0_0) := (blk_cell BK1182.out 0).trans rfl; have hcz54_1 : w53.cell? ⟨gb1182, 1, none⟩ = some (.int .u64 a0_1) := (blk_cell BK1182.out 1).trans rfl; have hcz54_2 : w53.cell? ⟨gb1182, 2, none⟩ = some (.string a0_2) := (blk_cell BK1182.out 2).trans rfl; have hcz54_3 : w53.cell? ⟨gb1182, 3, none⟩ = some (.slice A0_3 l0_3.length c0_3) := (blk_cell BK1182.out 3).trans rfl; have hfz54_0 := blk_frozen BK1182.out 0; have hfz54_1 := blk_frozen BK1182.out 1; have hfz54_2 := blk_frozen BK1182.out 2; have hfz54_3 := blk_frozen BK1182.out 3; have hcz55_0 : w53.cell? ⟨gb1200, 0, none⟩ = some (.int .i64 t1194) := (blk_cell BK1200.out 0).trans rfl; have hcz55_1 : w53.cell? ⟨gb1200, 1, none⟩ = some (.int .u64 t1195) := (blk_cell BK1200.out 1).trans rfl; have hcz55_2 : w53.cell? ⟨gb1200, 2, none⟩ = some (.string t1196) := (blk_cell BK1200.out 2).trans rfl; have hcz55_3 : w53.cell? ⟨gb1200, 3, none⟩ = some (.slice Ao43 t1197.length co43) := (blk_cell BK1200.out 3).trans rfl; have hfz55_0 := blk_frozen BK1200.out 0; have hfz55_1 := blk_frozen BK1200.out 1; have hfz55_2 := blk_frozen BK1200.out 2; have hfz55_3 := blk_frozen BK1200.out 3) | (go_at_call 32; (with_reducible refine (amqvalue_Same.calls kj19 a0_0 a0_1 a0_2 _ _ l0_3 t1194 t1195 t1196 _ _ t1197 t1203 _ ?side1 ?side2 ?side3 ?side4 A48.out).mono ?_); (case side1 => repeat (first | exact (Kd.V_reads' HO_1183003.out).2.2 | (with_reducible refine Kd.C_alloc ?_ _) | (with_reducible refine Kd.C_drewN ?_ _) | (with_reducible refine Kd.C_drew ?_))); (case side2 => exact (Kd.V_reads' HO_1183003.out).2.1); (case side3 => repeat (first | exact (Kd.V_reads' HO1199.out).2.2 | (with_reducible refine Kd.C_alloc ?_ _) | (with_reducible refine Kd.C_drewN ?_ _) | (with_reducible refine Kd.C_drew ?_))); (case side4 => exact (Kd.V_reads' HO1199.out).2.1); rintro e w56 ⟨rfl, hb⟩; have n0_ := Aside0.mk (Kd.V_below (by (with_reducible repeat (first | apply Kd.V_alloc | apply Kd.V_drewN | apply Kd.V_drew)); exact HO_1183003.out) hb); have n1_ := Aside0.mk (Kd.N_below (by (with_reducible repeat (first | apply Kd.N_alloc | apply Kd.N_drewN | apply Kd.N_drew)); exact HO1193.out) hb); have n2_ := Aside0.mk (Kd.V_below (by (with_reducible repeat (first | apply Kd.V_alloc | apply Kd.V_drewN | apply Kd.V_drew)); exact HO1199.out) hb); have n3_ := Aside0.mk (blk_below (g := gb1182) (o := .cells #[.int .i64 a0_0, .int .u64 a0_1, .string a0_2, .slice A0_3 l0_3.length c0_3] 25 (0, 0)) (by (with_reducible repeat (first | refine blk_drewN ?_ _ | refine blk_drew ?_ | refine blk_alloc ?_ _)); exact BK1182.out) hb); have n4_ := Aside0.mk (blk_below (g := gb1200) (o := .cells #[.int .i64 t1194, .int .u64 t1195, .string t1196, .slice Ao43 t1197.length co43] 25 (0, 0)) (by (with_reducible repeat (first | refine blk_drewN ?_ _ | refine blk_drew ?_ | refine blk_alloc ?_ _)); exact BK1200.out) hb); have n5_ := Aside0.mk (below_step (by repeat (first | (with_reducible first | exact HB.out | apply below_alloc | apply pw_below_drewN | apply below_drew1 | refine below_set ?_ GE1182.out | refine below_set ?_ GE1200.out) | exact HB.out)) hb); clear HO_1183003; clear HO1193; clear HO1199; clear BK1182; clear BK1200; clear HB; have HO_1183003 := n0_; have HO1193 := n1_; have HO1199 := n2_; have BK1182 := n3_; have BK1200 := n4_; have HB := n5_; clear n0_ n1_ n2_ n3_ n4_ n5_; (try clear hb); (try clear hb2); (try clear hk); (try clear hi)))
            go_meet
            case rel => exact ⟨_, (t1203), (by first | rfl | (simp; done) | (simp [*]; done)), H', ⟨by have := HJ9.out; have := HJ19.out; first | omega | exact Nat.le_refl _⟩, ⟨by (with_reducible repeat (first | apply Kd.V_alloc | apply Kd.V_drewN | apply Kd.V_drew)); exact Kd.V_mono HO_1183003.out (fun _ hk => ⟨hk.1.1.1, ⟨hk.1.1.2, hk.2⟩⟩)⟩, ⟨by (with_reducible repeat (first | apply Kd.V_alloc | apply Kd.V_drewN | apply Kd.V_drew)); exact Kd.V_mono HO1199.out (fun _ hk => ⟨hk.1.1, ⟨hk.1.2, hk.2⟩⟩)⟩, ⟨by (with_reducible repeat (first | refine blk_drewN ?_ _ | refine blk_drew ?_ | refine blk_alloc ?_ _)); exact BK1182.out⟩, ⟨by (with_reducible repeat (first | refine blk_drewN ?_ _ | refine blk_drew ?_ | refine blk_alloc ?_ _)); exact BK1200.out⟩, ⟨by repeat (first | (with_reducible first | exact HB.out | apply below_alloc | apply pw_below_drewN | apply below_drew1 | refine below_set ?_ GE1182.out | refine below_set ?_ GE1200.out) | exact HB.out)⟩⟩
           ·rw [if_neg c47] at H
            have c47b0 : (t1202 == (wrap64 (t1188 + 1))) = false := beq_eq_false_iff_ne.mpr c47
            have c47b1 : (t1202 != (wrap64 (t1188 + 1))) = true := bne_iff_ne.mpr c47
            have H' := Aside0.mk H
            clear H
            have hnb57 := NB1200_1182.out
            have hnc57 := NB1182_1200.out
            have hcz58_0 : w40.cell? ⟨gb1200, 0, none⟩ = some (.int .i64 0) := (blk_cell BK1200.out 0).trans rfl
            have hcz58_1 : w40.cell? ⟨gb1200, 1, none⟩ = some (.int .u64 0) := (blk_cell BK1200.out 1).trans rfl
            have hcz58_2 : w40.cell? ⟨gb1200, 2, none⟩ = some (.string (⟨#[]⟩ : ByteArray)) := (blk_cell BK1200.out 2).trans rfl
            have hcz58_3 : w40.cell? ⟨gb1200, 3, none⟩ = some (.slice none 0 0) := (blk_cell BK1200.out 3).trans rfl
            have hfz58_0 := blk_frozen BK1200.out 0
            have hfz58_1 := blk_frozen BK1200.out 1
            have hfz58_2 := blk_frozen BK1200.out 2
            have hfz58_3 := blk_frozen BK1200.out 3
            go_wp2_with (first | ((with_reducible refine gate_callee (f := 50) rfl ?_); refine goesL_ (some 59) rfl rfl Tryd.func50 (by kernel_rfl) rfl #[.agg #[.int .i64 t1194, .int .u64 t1195, .string t1196, .slice Ao43 t1197.length co43]] rfl (by (try simp only [List.map_toArray, List.map_cons, List.map_nil]); first | done | rfl | (simp only [List.length_drop, List.length_take]; rfl)) ?_; (with_reducible refine (amqvalue_Depth.calls kj19 t1194 t1195 t1196 _ _ t1197 t1201 _ ?side1 ?side2 A44.out).mono ?_); (case side1 => refine (Kd.V_reads' (e := 25) (base := w.heap.size) (ok := fun k_ => (((P0_3_ k_ ∨ w.heap.size ≤ k_) ∧ k_ ≠ gb1182) ∧ k_ ≠ gb1200)) (n := t1197.length) (c := co43) ?_).2.2; exact (by (with_reducible repeat (first | apply Kd.V_alloc | apply Kd.V_drewN | apply Kd.V_drew)); exact (Kd.V_mono (Kd.V_far (p := ⟨gb1200, 3, none⟩) (Kd.V_far (p := ⟨gb1200, 2, none⟩) (Kd.V_far (p := ⟨gb1200, 1, none⟩) (Kd.V_far (p := ⟨gb1200, 0, none⟩) (Kd.V_mono HO1199.out (fun k_ hk => (⟨hk, hk.2⟩ : _ ∧ k_ ≠ gb1200))) (fun _ hk => hk.2) (.int .i64 t1194)) (fun _ hk => hk.2) (.int .u64 t1195)) (fun _ hk => hk.2) (.string t1196)) (fun _ hk => hk.2) (.slice Ao43 t1197.length co43)) (fun _ h_ => h_.1)))); (case side2 => exact (Kd.V_reads' HO1199.out).2.1); rintro e w59 ⟨rfl, hb⟩; refine ⟨_, rfl, ?_⟩; have n0_ := Aside0.mk (Kd.V_below (by (with_reducible repeat (first | apply Kd.V_alloc | apply Kd.V_drewN | apply Kd.V_drew)); exact (Kd.V_mono (Kd.V_far (p := ⟨gb1200, 3, none⟩) (Kd.V_far (p := ⟨gb1200, 2, none⟩) (Kd.V_far (p := ⟨gb1200, 1, none⟩) (Kd.V_far (p := ⟨gb1200, 0, none⟩) (Kd.V_mono HO_1183003.out (fun k_ hk => (⟨hk, hk.2⟩ : _ ∧ k_ ≠ gb1200))) (fun _ hk => hk.2) (.int .i64 t1194)) (fun _ hk => hk.2) (.int .u64 t1195)) (fun _ hk => hk.2) (.string t1196)) (fun _ hk => hk.2) (.slice Ao43 t1197.length co43)) (fun _ h_ => h_.1))) hb); have n1_ := Aside0.mk (Kd.N_below (by (with_reducible repeat (first | apply Kd.N_alloc | apply Kd.N_drewN | apply Kd.N_drew)); exact (Kd.N_mono (Kd.N_far (p := ⟨gb1200, 3, none⟩) (Kd.N_far (p := ⟨gb1200, 2, none⟩) (Kd.N_far (p := ⟨gb1200, 1, none⟩) (Kd.N_far (p := ⟨gb1200, 0, none⟩) (Kd.N_mono HO1193.out (fun k_ hk => (⟨hk, hk.2⟩ : _ ∧ k_ ≠ gb1200))) (fun _ hk => hk.2) (.int .i64 t1194)) (fun _ hk => hk.2) (.int .u64 t1195)) (fun _ hk => hk.2) (.string t1196)) (fun _ hk => hk.2) (.slice Ao43 t1197.length co43)) (fun _ h_ => h_.1))) hb); have n2_ := Aside0.mk (Kd.V_below (by (with_reducible repeat (first | apply Kd.V_alloc | apply Kd.V_drewN | apply Kd.V_drew)); exact (Kd.V_mono (Kd.V_far (p := ⟨gb1200, 3, none⟩) (Kd.V_far (p := ⟨gb1200, 2, none⟩) (Kd.V_far (p := ⟨gb1200, 1, none⟩) (Kd.V_far (p := ⟨gb1200, 0, none⟩) (Kd.V_mono HO1199.out (fun k_ hk => (⟨hk, hk.2⟩ : _ ∧ k_ ≠ gb1200))) (fun _ hk => hk.2) (.int .i64 t1194)) (fun _ hk => hk.2) (.int .u64 t1195)) (fun _ hk => hk.2) (.string t1196)) (fun _ hk => hk.2) (.slice Ao43 t1197.length co43)) (fun _ h_ => h_.1))) hb); have n3_ := Aside0.mk (blk_below (g := gb1182) (o := .cells #[.int .i64 a0_0, .int .u64 a0_1, .string a0_2, .slice A0_3 l0_3.length c0_3] 25 (0, 0)) (by (with_reducible repeat (first | refine blk_drewN ?_ _ | refine blk_drew ?_ | refine blk_alloc ?_ _)); refine blk_far ?_ NB1182_1200.out _; (with_reducible repeat (first | refine blk_drewN ?_ _ | refine blk_drew ?_ | refine blk_alloc ?_ _)); refine blk_far ?_ NB1182_1200.out _; (with_reducible repeat (first | refine blk_drewN ?_ _ | refine blk_drew ?_ | refine blk_alloc ?_ _)); refine blk_far ?_ NB1182_1200.out _; (with_reducible repeat (first | refine blk_drewN ?_ _ | refine blk_drew ?_ | refine blk_alloc ?_ _)); refine blk_far ?_ NB1182_1200.out _; (with_reducible repeat (first | refine blk_drewN ?_ _ | refine blk_drew ?_ | refine blk_alloc ?_ _)); exact BK1182.out) hb); have n4_ := Aside0.mk (blk_below (g := gb1200) (o := .cells #[.int .i64 t1194, .int .u64 t1195, .string t1196, .slice Ao43 t1197.length co43] 25 (0, 0)) (by (with_reducible repeat (first | refine blk_drewN ?_ _ | refine blk_drew ?_ | refine blk_alloc ?_ _)); refine blk_put (cs := #[.int .i64 t1194, .int .u64 t1195, .string t1196, .slice none 0 0]) ?_ 3 _ rfl; (with_reducible repeat (first | refine blk_drewN ?_ _ | refine blk_drew ?_ | refine blk_alloc ?_ _)); refine blk_put (cs := #[.int .i64 t1194, .int .u64 t1195, .string (⟨#[]⟩ : ByteArray), .slice none 0 0]) ?_ 2 _ rfl; (with_reducible repeat (first | refine blk_drewN ?_ _ | refine blk_drew ?_ | refine blk_alloc ?_ _)); refine blk_put (cs := #[.int .i64 t1194, .int .u64 0, .string (⟨#[]⟩ : ByteArray), .slice none 0 0]) ?_ 1 _ rfl; (with_reducible repeat (first | refine blk_drewN ?_ _ | refine blk_drew ?_ | refine blk_alloc ?_ _)); refine blk_put (cs := #[.int .i64 0, .int .u64 0, .string (⟨#[]⟩ : ByteArray), .slice none 0 0]) ?_ 0 _ rfl; (with_reducible repeat (first | refine blk_drewN ?_ _ | refine blk_drew ?_ | refine blk_alloc ?_ _)); exact BK1200.out) hb); have n5_ := Aside0.mk (below_step (by repeat (first | (with_reducible first | exact HB.out | apply below_alloc | apply pw_below_drewN | apply below_drew1 | refine below_set ?_ GE1182.out | refine below_set ?_ GE1200.out) | exact HB.out)) hb); clear HO_1183003; clear HO1193; clear HO1199; clear BK1182; clear BK1200; clear HB; have HO_1183003 := n0_; have HO1193 := n1_; have HO1199 := n2_; have BK1182 := n3_; have BK1200 := n4_; have HB := n5_; clear n0_ n1_ n2_ n3_ n4_ n5_; (try clear hb); (try clear hb2); (try clear hk); (try clear hi); have hcz60_0 : w59.cell? ⟨gb1200, 0, none⟩ = some (.int .i64 t1194) := (blk_cell BK1200.out 0).trans rfl; have hcz60_1 : w59.cell? ⟨gb1200, 1, none⟩ = some (.int .u64 t1195) := (blk_cell BK1200.out 1).trans rfl; have hcz60_2 : w59.cell? ⟨gb1200, 2, none⟩ = some (.string t1196) := (blk_cell BK1200.out 2).trans rfl; have hcz60_3 : w59.cell? ⟨gb1200, 3, none⟩ = some (.slice Ao43 t1197.length co43) := (blk_cell BK1200.out 3).trans rfl; have hfz60_0 := blk_frozen BK1200.out 0; have hfz60_1 := blk_frozen BK1200.out 1; have hfz60_2 := blk_frozen BK1200.out 2; have hfz60_3 := blk_frozen BK1200.out 3) | (go_at_call 33; (with_reducible refine (amqvalue_Count.calls kj19 t1194 t1195 t1196 _ _ t1197 t1202 _ ?side1 ?side2 A46.out).mono ?_); (case side1 => repeat (first | exact (Kd.V_reads' HO1199.out).2.2 | (with_reducible refine Kd.C_alloc ?_ _) | (with_reducible refine Kd.C_drewN ?_ _) | (with_reducible refine Kd.C_drew ?_))); (case side2 => exact (Kd.V_reads' HO1199.out).2.1); rintro e w61 ⟨rfl, hb⟩; have n0_ := Aside0.mk (Kd.V_below (by (with_reducible repeat (first | apply Kd.V_alloc | apply Kd.V_drewN | apply Kd.V_drew)); exact HO_1183003.out) hb); have n1_ := Aside0.mk (Kd.N_below (by (with_reducible repeat (first | apply Kd.N_alloc | apply Kd.N_drewN | apply Kd.N_drew)); exact HO1193.out) hb); have n2_ := Aside0.mk (Kd.V_below (by (with_reducible repeat (first | apply Kd.V_alloc | apply Kd.V_drewN | apply Kd.V_drew)); exact HO1199.out) hb); have n3_ := Aside0.mk (blk_below (g := gb1182) (o := .cells #[.int .i64 a0_0, .int .u64 a0_1, .string a0_2, .slice A0_3 l0_3.length c0_3] 25 (0, 0)) (by (with_reducible repeat (first | refine blk_drewN ?_ _ | refine blk_drew ?_ | refine blk_alloc ?_ _)); exact BK1182.out) hb); have n4_ := Aside0.mk (blk_below (g := gb1200) (o := .cells #[.int .i64 t1194, .int .u64 t1195, .string t1196, .slice Ao43 t1197.length co43] 25 (0, 0)) (by (with_reducible repeat (first | refine blk_drewN ?_ _ | refine blk_drew ?_ | refine blk_alloc ?_ _)); exact BK1200.out) hb); have n5_ := Aside0.mk (below_step (by repeat (first | (with_reducible first | exact HB.out | apply below_alloc | apply pw_below_drewN | apply below_drew1 | refine below_set ?_ GE1182.out | refine below_set ?_ GE1200.out) | exact HB.out)) hb); clear HO_1183003; clear HO1193; clear HO1199; clear BK1182; clear BK1200; clear HB; have HO_1183003 := n0_; have HO1193 := n1_; have HO1199 := n2_; have BK1182 := n3_; have BK1200 := n4_; have HB := n5_; clear n0_ n1_ n2_ n3_ n4_ n5_; (try clear hb); (try clear hb2); (try clear hk); (try clear hi)))
            go_meet
            case rel => exact ⟨_, (true), (by first | rfl | (simp; done) | (simp [*]; done)), H', ⟨by have := HJ9.out; have := HJ19.out; first | omega | exact Nat.le_refl _⟩, ⟨by (with_reducible repeat (first | apply Kd.V_alloc | apply Kd.V_drewN | apply Kd.V_drew)); exact Kd.V_mono HO_1183003.out (fun _ hk => ⟨hk.1.1.1, ⟨hk.1.1.2, hk.2⟩⟩)⟩, ⟨by (with_reducible repeat (first | apply Kd.V_alloc | apply Kd.V_drewN | apply Kd.V_drew)); exact Kd.V_mono HO1199.out (fun _ hk => ⟨hk.1.1, ⟨hk.1.2, hk.2⟩⟩)⟩, ⟨by (with_reducible repeat (first | refine blk_drewN ?_ _ | refine blk_drew ?_ | refine blk_alloc ?_ _)); exact BK1182.out⟩, ⟨by (with_reducible repeat (first | refine blk_drewN ?_ _ | refine blk_drew ?_ | refine blk_alloc ?_ _)); exact BK1200.out⟩, ⟨by repeat (first | (with_reducible first | exact HB.out | apply below_alloc | apply pw_below_drewN | apply below_drew1 | refine below_set ?_ GE1182.out | refine below_set ?_ GE1200.out) | exact HB.out)⟩⟩
          ·rw [if_neg c45] at H
           have c45b0 : (t1201 == (wrap64 (t1187 + 1))) = false := beq_eq_false_iff_ne.mpr c45
           have c45b1 : (t1201 != (wrap64 (t1187 + 1))) = true := bne_iff_ne.mpr c45
           (first | rw [c45b0] | (simp only [i64_w, i32_w]; rw [c45b0]) | skip)
           have H' := Aside0.mk H
           clear H
           have hnb62 := NB1200_1182.out
           have hnc62 := NB1182_1200.out
           have hcz63_0 : w40.cell? ⟨gb1200, 0, none⟩ = some (.int .i64 0) := (blk_cell BK1200.out 0).trans rfl
           have hcz63_1 : w40.cell? ⟨gb1200, 1, none⟩ = some (.int .u64 0) := (blk_cell BK1200.out 1).trans rfl
           have hcz63_2 : w40.cell? ⟨gb1200, 2, none⟩ = some (.string (⟨#[]⟩ : ByteArray)) := (blk_cell BK1200.out 2).trans rfl
           have hcz63_3 : w40.cell? ⟨gb1200, 3, none⟩ = some (.slice none 0 0) := (blk_cell BK1200.out 3).trans rfl
           have hfz63_0 := blk_frozen BK1200.out 0
           have hfz63_1 := blk_frozen BK1200.out 1
           have hfz63_2 := blk_frozen BK1200.out 2
           have hfz63_3 := blk_frozen BK1200.out 3
           go_wp2_with (first | ((with_reducible refine gate_callee (f := 50) rfl ?_); refine goesL_ (some 59) rfl rfl Tryd.func50 (by kernel_rfl) rfl #[.agg #[.int .i64 t1194, .int .u64 t1195, .string t1196, .slice Ao43 t1197.length co43]] rfl (by (try simp only [List.map_toArray, List.map_cons, List.map_nil]); first | done | rfl | (simp only [List.length_drop, List.length_take]; rfl)) ?_; (with_reducible refine (amqvalue_Depth.calls kj19 t1194 t1195 t1196 _ _ t1197 t1201 _ ?side1 ?side2 A44.out).mono ?_); (case side1 => refine (Kd.V_reads' (e := 25) (base := w.heap.size) (ok := fun k_ => (((P0_3_ k_ ∨ w.heap.size ≤ k_) ∧ k_ ≠ gb1182) ∧ k_ ≠ gb1200)) (n := t1197.length) (c := co43) ?_).2.2; exact (by (with_reducible repeat (first | apply Kd.V_alloc | apply Kd.V_drewN | apply Kd.V_drew)); exact (Kd.V_mono (Kd.V_far (p := ⟨gb1200, 3, none⟩) (Kd.V_far (p := ⟨gb1200, 2, none⟩) (Kd.V_far (p := ⟨gb1200, 1, none⟩) (Kd.V_far (p := ⟨gb1200, 0, none⟩) (Kd.V_mono HO1199.out (fun k_ hk => (⟨hk, hk.2⟩ : _ ∧ k_ ≠ gb1200))) (fun _ hk => hk.2) (.int .i64 t1194)) (fun _ hk => hk.2) (.int .u64 t1195)) (fun _ hk => hk.2) (.string t1196)) (fun _ hk => hk.2) (.slice Ao43 t1197.length co43)) (fun _ h_ => h_.1)))); (case side2 => exact (Kd.V_reads' HO1199.out).2.1); rintro e w64 ⟨rfl, hb⟩; refine ⟨_, rfl, ?_⟩; have n0_ := Aside0.mk (Kd.V_below (by (with_reducible repeat (first | apply Kd.V_alloc | apply Kd.V_drewN | apply Kd.V_drew)); exact (Kd.V_mono (Kd.V_far (p := ⟨gb1200, 3, none⟩) (Kd.V_far (p := ⟨gb1200, 2, none⟩) (Kd.V_far (p := ⟨gb1200, 1, none⟩) (Kd.V_far (p := ⟨gb1200, 0, none⟩) (Kd.V_mono HO_1183003.out (fun k_ hk => (⟨hk, hk.2⟩ : _ ∧ k_ ≠ gb1200))) (fun _ hk => hk.2) (.int .i64 t1194)) (fun _ hk => hk.2) (.int .u64 t1195)) (fun _ hk => hk.2) (.string t1196)) (fun _ hk => hk.2) (.slice Ao43 t1197.length co43)) (fun _ h_ => h_.1))) hb); have n1_ := Aside0.mk (Kd.N_below (by (with_reducible repeat (first | apply Kd.N_alloc | apply Kd.N_drewN | apply Kd.N_drew)); exact (Kd.N_mono (Kd.N_far (p := ⟨gb1200, 3, none⟩) (Kd.N_far (p := ⟨gb1200, 2, none⟩) (Kd.N_far (p := ⟨gb1200, 1, none⟩) (Kd.N_far (p := ⟨gb1200, 0, none⟩) (Kd.N_mono HO1193.out (fun k_ hk => (⟨hk, hk.2⟩ : _ ∧ k_ ≠ gb1200))) (fun _ hk => hk.2) (.int .i64 t1194)) (fun _ hk => hk.2) (.int .u64 t1195)) (fun _ hk => hk.2) (.string t1196)) (fun _ hk => hk.2) (.slice Ao43 t1197.length co43)) (fun _ h_ => h_.1))) hb); have n2_ := Aside0.mk (Kd.V_below (by (with_reducible repeat (first | apply Kd.V_alloc | apply Kd.V_drewN | apply Kd.V_drew)); exact (Kd.V_mono (Kd.V_far (p := ⟨gb1200, 3, none⟩) (Kd.V_far (p := ⟨gb1200, 2, none⟩) (Kd.V_far (p := ⟨gb1200, 1, none⟩) (Kd.V_far (p := ⟨gb1200, 0, none⟩) (Kd.V_mono HO1199.out (fun k_ hk => (⟨hk, hk.2⟩ : _ ∧ k_ ≠ gb1200))) (fun _ hk => hk.2) (.int .i64 t1194)) (fun _ hk => hk.2) (.int .u64 t1195)) (fun _ hk => hk.2) (.string t1196)) (fun _ hk => hk.2) (.slice Ao43 t1197.length co43)) (fun _ h_ => h_.1))) hb); have n3_ := Aside0.mk (blk_below (g := gb1182) (o := .cells #[.int .i64 a0_0, .int .u64 a0_1, .string a0_2, .slice A0_3 l0_3.length c0_3] 25 (0, 0)) (by (with_reducible repeat (first | refine blk_drewN ?_ _ | refine blk_drew ?_ | refine blk_alloc ?_ _)); refine blk_far ?_ NB1182_1200.out _; (with_reducible repeat (first | refine blk_drewN ?_ _ | refine blk_drew ?_ | refine blk_alloc ?_ _)); refine blk_far ?_ NB1182_1200.out _; (with_reducible repeat (first | refine blk_drewN ?_ _ | refine blk_drew ?_ | refine blk_alloc ?_ _)); refine blk_far ?_ NB1182_1200.out _; (with_reducible repeat (first | refine blk_drewN ?_ _ | refine blk_drew ?_ | refine blk_alloc ?_ _)); refine blk_far ?_ NB1182_1200.out _; (with_reducible repeat (first | refine blk_drewN ?_ _ | refine blk_drew ?_ | refine blk_alloc ?_ _)); exact BK1182.out) hb); have n4_ := Aside0.mk (blk_below (g := gb1200) (o := .cells #[.int .i64 t1194, .int .u64 t1195, .string t1196, .slice Ao43 t1197.length co43] 25 (0, 0)) (by (with_reducible repeat (first | refine blk_drewN ?_ _ | refine blk_drew ?_ | refine blk_alloc ?_ _)); refine blk_put (cs := #[.int .i64 t1194, .int .u64 t1195, .string t1196, .slice none 0 0]) ?_ 3 _ rfl; (with_reducible repeat (first | refine blk_drewN ?_ _ | refine blk_drew ?_ | refine blk_alloc ?_ _)); refine blk_put (cs := #[.int .i64 t1194, .int .u64 t1195, .string (⟨#[]⟩ : ByteArray), .slice none 0 0]) ?_ 2 _ rfl; (with_reducible repeat (first | refine blk_drewN ?_ _ | refine blk_drew ?_ | refine blk_alloc ?_ _)); refine blk_put (cs := #[.int .i64 t1194, .int .u64 0, .string (⟨#[]⟩ : ByteArray), .slice none 0 0]) ?_ 1 _ rfl; (with_reducible repeat (first | refine blk_drewN ?_ _ | refine blk_drew ?_ | refine blk_alloc ?_ _)); refine blk_put (cs := #[.int .i64 0, .int .u64 0, .string (⟨#[]⟩ : ByteArray), .slice none 0 0]) ?_ 0 _ rfl; (with_reducible repeat (first | refine blk_drewN ?_ _ | refine blk_drew ?_ | refine blk_alloc ?_ _)); exact BK1200.out) hb); have n5_ := Aside0.mk (below_step (by repeat (first | (with_reducible first | exact HB.out | apply below_alloc | apply pw_below_drewN | apply below_drew1 | refine below_set ?_ GE1182.out | refine below_set ?_ GE1200.out) | exact HB.out)) hb); clear HO_1183003; clear HO1193; clear HO1199; clear BK1182; clear BK1200; clear HB; have HO_1183003 := n0_; have HO1193 := n1_; have HO1199 := n2_; have BK1182 := n3_; have BK1200 := n4_; have HB := n5_; clear n0_ n1_ n2_ n3_ n4_ n5_; (try clear hb); (try clear hb2); (try clear hk); (try clear hi)))
           go_meet
           case rel => exact ⟨_, (true), (by first | rfl | (simp; done) | (simp [*]; done)), H', ⟨by have := HJ9.out; have := HJ19.out; first | omega | exact Nat.le_refl _⟩, ⟨by (with_reducible repeat (first | apply Kd.V_alloc | apply Kd.V_drewN | apply Kd.V_drew)); exact Kd.V_mono HO_1183003.out (fun _ hk => ⟨hk.1.1.1, ⟨hk.1.1.2, hk.2⟩⟩)⟩, ⟨by (with_reducible repeat (first | apply Kd.V_alloc | apply Kd.V_drewN | apply Kd.V_drew)); exact Kd.V_mono HO1199.out (fun _ hk => ⟨hk.1.1, ⟨hk.1.2, hk.2⟩⟩)⟩, ⟨by (with_reducible repeat (first | refine blk_drewN ?_ _ | refine blk_drew ?_ | refine blk_alloc ?_ _)); exact BK1182.out⟩, ⟨by (with_reducible repeat (first | refine blk_drewN ?_ _ | refine blk_drew ?_ | refine blk_alloc ?_ _)); exact BK1200.out⟩, ⟨by repeat (first | (with_reducible first | exact HB.out | apply below_alloc | apply pw_below_drewN | apply below_drew1 | refine below_set ?_ GE1182.out | refine below_set ?_ GE1200.out) | exact HB.out)⟩⟩
         case rest =>
          clear HC34
          try clear c1
          try clear c2
          try clear p2
          try clear c3
          try clear c4
          try clear c5
          try clear c6
          try clear p6
          try clear c7
          try clear c12
          try clear c15
          try clear c15b0
          try clear c19
          try clear c22
          try clear c27
          try clear c27b0
          try clear c27b1
          try clear c28
          try clear c28b0
          try clear c28b1
          try clear c29
          try clear c29b0
          try clear c30
          try clear c30b0
          try clear c31
          try clear c31b0
          try clear c32
          try clear c33
          try clear c39
          try clear c41
          try clear c45
          try clear c45b0
          try clear c45b1
          try clear c47
          try clear c47b0
          try clear c47b1
          try clear c49
          try clear c50
          try clear c57
          try clear c62
          try clear p64
          try clear hcz13_0
          try clear hcz13_1
          try clear hcz13_2
          try clear hcz13_3
          try clear hcz35_0
          try clear hcz35_1
          try clear hcz35_2
          try clear hcz35_3
          try clear hcz42_0
          try clear hcz42_1
          try clear hcz42_2
          try clear hcz42_3
          try clear hcz50_0
          try clear hcz50_1
          try clear hcz50_2
          try clear hcz50_3
          try clear hcz52_0
          try clear hcz52_1
          try clear hcz52_2
          try clear hcz52_3
          try clear hcz54_0
          try clear hcz54_1
          try clear hcz54_2
          try clear hcz54_3
          try clear hcz55_0
          try clear hcz55_1
          try clear hcz55_2
          try clear hcz55_3
          try clear hcz58_0
          try clear hcz58_1
          try clear hcz58_2
          try clear hcz58_3
          try clear hcz60_0
          try clear hcz60_1
          try clear hcz60_2
          try clear hcz60_3
          try clear hcz63_0
          try clear hcz63_1
          try clear hcz63_2
          try clear hcz63_3
          try clear hfz13_0
          try clear hfz13_1
          try clear hfz13_2
          try clear hfz13_3
          try clear hfz35_0
          try clear hfz35_1
          try clear hfz35_2
          try clear hfz35_3
          try clear hfz42_0
          try clear hfz42_1
          try clear hfz42_2
          try clear hfz42_3
          try clear hfz50_0
          try clear hfz50_1
          try clear hfz50_2
          try clear hfz50_3
          try clear hfz52_0
          try clear hfz52_1
          try clear hfz52_2
          try clear hfz52_3
          try clear hfz54_0
          try clear hfz54_1
          try clear hfz54_2
          try clear hfz54_3
          try clear hfz55_0
          try clear hfz55_1
          try clear hfz55_2
          try clear hfz55_3
          try clear hfz58_0
          try clear hfz58_1
          try clear hfz58_2
          try clear hfz58_3
          try clear hfz60_0
          try clear hfz60_1
          try clear hfz60_2
          try clear hfz60_3
          try clear hfz63_0
          try clear hfz63_1
          try clear hfz63_2
          try clear hfz63_3
          try clear p2
          obtain ⟨kq, x74_33, rfl, HA, HJ33, HO_1183003, HO_1201003, BK1182, BK1200, HB⟩ := hcut
          cases kq with
          | zero => exact absurd HA.out (by simp [polyglotlaw17_AmqvalueDepths.j2])
          | succ kj33 =>
           have H := HA.out
           clear HA
           simp only [polyglotlaw17_AmqvalueDepths.j2] at H
           by_cases c65 : x74_33 = true
           ·subst c65
            have H1 : (none) = some r := by rw [if_pos rfl] at H; exact H
            clear H
            have H := H1
            clear H1
            exact absurd H (by simp)
           ·replace c65 := Bool.eq_false_iff.mpr c65
            subst c65
            have H1 : (if x2_9 = 0 then (some true) else ((amqvalue_Check.f t1194 t1195 t1196 t1197 x2_9).bind fun t1204 => ((amqvalue_Check.f a0_0 a0_1 a0_2 l0_3 (wrap64 (x2_9 - 1))).bind fun t1205 => (some ((t1204 == 0) == (t1205 == 0)))))) = some r := by rw [if_neg (show ¬ (false = true) by decide)] at H; exact H
            clear H
            have H := H1
            clear H1
            by_cases c66 : x2_9 = 0
            ·rw [if_pos c66] at H
             have c66b0 : (x2_9 == 0) = true := beq_iff_eq.mpr c66
             have c66b1 : (x2_9 != 0) = false := bne_eq_false_iff_eq.mpr c66
             clear c66
             obtain rfl := Option.some.inj H
             try go_wp2
             have n0_ := Aside0.mk (Kd.V_drew HO_1183003.out)
             have n1_ := Aside0.mk (Kd.V_drew HO_1201003.out)
             have n2_ := Aside0.mk (blk_drew BK1182.out)
             have n3_ := Aside0.mk (blk_drew BK1200.out)
             have n4_ := Aside0.mk (below_drew1 HB.out)
             clear HO_1183003
             clear HO_1201003
             clear BK1182
             clear BK1200
             clear HB
             have HO_1183003 := n0_
             have HO_1201003 := n1_
             have BK1182 := n2_
             have BK1200 := n3_
             have HB := n4_
             clear n0_ n1_ n2_ n3_ n4_
             refine start_ (n := 15) (S := fun w' => True) (ds := []) #[false, false, false, false, false, false, false, false, false, false, false, false, false, false, false] (by kernel_rfl) rfl rfl trivial (fun hHeld => ?_); refine with_tabW polyglotlaw17_AmqvalueDepths.tab15 polyglotlaw17_AmqvalueDepths.bits15 (fun HT_ HW_ => ?_)
             generalize wc.drew = w67 at HO_1183003 HO_1201003 BK1182 BK1200 HB hHeld ⊢
             refine pure_ (i := 0) (N := some 75) (v := ?_) (a' := ?_) #[true, false, false, false, false, false, false, false, false, false, false, false, false, false, false] rfl rfl (any_of HT_.out (by kernel_rfl)) (fun _ _ _ h => h) (Or.inl ⟨by rfl, ?_⟩) ?_ ?_
             rotate_left
             ·intro w'
              go_simp
              with_reducible rfl
             rotate_left
             ·simp only [Act.put, List.setIfInBounds_toArray, List.set_cons_zero, List.set_cons_succ, i64_w, i32_w]
              rfl
             refine pure_ (i := 1) (N := some 76) (v := ?_) (a' := ?_) #[true, true, false, false, false, false, false, false, false, false, false, false, false, false, false] rfl rfl (any_of HT_.out (by kernel_rfl)) (fun _ _ _ h => h) (Or.inl ⟨by rfl, ?_⟩) ?_ ?_
             rotate_left
             ·intro w'
              go_simp
              with_reducible rfl
             rotate_left
             ·simp only [Act.put, List.setIfInBounds_toArray, List.set_cons_zero, List.set_cons_succ, i64_w, i32_w]
              rfl
             refine pure_ (i := 2) (N := some 77) (v := ?_) (a' := ?_) #[true, true, true, false, false, false, false, false, false, false, false, false, false, false, false] rfl rfl (any_of HT_.out (by kernel_rfl)) (fun _ _ _ h => h) (Or.inl ⟨by rfl, ?_⟩) ?_ ?_
             rotate_left
             ·intro w'
              go_simp
              with_reducible rfl
             rotate_left
             ·simp only [Act.put, List.setIfInBounds_toArray, List.set_cons_zero, List.set_cons_succ, i64_w, i32_w]
              rfl
             refine pure_ (i := 3) (N := some 78) (v := undef) (a' := ?_) #[true, true, true, true, false, false, false, false, false, false, false, false, false, false, false] rfl rfl (any_of HT_.out (by kernel_rfl)) (fun _ _ _ h => h) (Or.inr ⟨by rfl, rfl⟩) ?_ ?_
             rotate_left
             ·simp only [Act.put, List.setIfInBounds_toArray, List.set_cons_zero, List.set_cons_succ, i64_w, i32_w]
              rfl
             refine pure_ (i := 4) (N := some 79) (v := undef) (a' := ?_) #[true, true, true, true, true, false, false, false, false, false, false, false, false, false, false] rfl rfl (any_of HT_.out (by kernel_rfl)) (fun _ _ _ h => h) (Or.inr ⟨by rfl, rfl⟩) ?_ ?_
             rotate_left
             ·simp only [Act.put, List.setIfInBounds_toArray, List.set_cons_zero, List.set_cons_succ, i64_w, i32_w]
              rfl
             refine pure_ (i := 5) (N := some 80) (v := undef) (a' := ?_) #[true, true, true, true, true, true, false, false, false, false, false, false, false, false, false] rfl rfl (any_of HT_.out (by kernel_rfl)) (fun _ _ _ h => h) (Or.inr ⟨by rfl, rfl⟩) ?_ ?_
             rotate_left
             ·simp only [Act.put, List.setIfInBounds_toArray, List.set_cons_zero, List.set_cons_succ, i64_w, i32_w]
              rfl
             refine pure_ (i := 6) (N := some 81) (v := undef) (a' := ?_) #[true, true, true, true, true, true, true, false, false, false, false, false, false, false, false] rfl rfl (any_of HT_.out (by kernel_rfl)) (fun _ _ _ h => h) (Or.inr ⟨by rfl, rfl⟩) ?_ ?_
             rotate_left
             ·simp only [Act.put, List.setIfInBounds_toArray, List.set_cons_zero, List.set_cons_succ, i64_w, i32_w]
              rfl
             refine pure_ (i := 7) (N := some 82) (v := undef) (a' := ?_) #[true, true, true, true, true, true, true, true, false, false, false, false, false, false, false] rfl rfl (any_of HT_.out (by kernel_rfl)) (fun _ _ _ h => h) (Or.inr ⟨by rfl, rfl⟩) ?_ ?_
             rotate_left
             ·simp only [Act.put, List.setIfInBounds_toArray, List.set_cons_zero, List.set_cons_succ, i64_w, i32_w]
              rfl
             refine pure_ (i := 8) (N := some 83) (v := undef) (a' := ?_) #[true, true, true, true, true, true, true, true, true, false, false, false, false, false, false] rfl rfl (any_of HT_.out (by kernel_rfl)) (fun _ _ _ h => h) (Or.inr ⟨by rfl, rfl⟩) ?_ ?_
             rotate_left
             ·simp only [Act.put, List.setIfInBounds_toArray, List.set_cons_zero, List.set_cons_succ, i64_w, i32_w]
              rfl
             refine pure_ (i := 9) (N := some 84) (v := undef) (a' := ?_) #[true, true, true, true, true, true, true, true, true, true, false, false, false, false, false] rfl rfl (any_of HT_.out (by kernel_rfl)) (fun _ _ _ h => h) (Or.inr ⟨by rfl, rfl⟩) ?_ ?_
             rotate_left
             ·simp only [Act.put, List.setIfInBounds_toArray, List.set_cons_zero, List.set_cons_succ, i64_w, i32_w]
              rfl
             refine pure_ (i := 10) (N := some 85) (v := undef) (a' := ?_) #[true, true, true, true, true, true, true, true, true, true, true, false, false, false, false] rfl rfl (any_of HT_.out (by kernel_rfl)) (fun _ _ _ h => h) (Or.inr ⟨by rfl, rfl⟩) ?_ ?_
             rotate_left
             ·simp only [Act.put, List.setIfInBounds_toArray, List.set_cons_zero, List.set_cons_succ, i64_w, i32_w]
              rfl
             refine pure_ (i := 11) (N := some 86) (v := undef) (a' := ?_) #[true, true, true, true, true, true, true, true, true, true, true, true, false, false, false] rfl rfl (any_of HT_.out (by kernel_rfl)) (fun _ _ _ h => h) (Or.inr ⟨by rfl, rfl⟩) ?_ ?_
             rotate_left
             ·simp only [Act.put, List.setIfInBounds_toArray, List.set_cons_zero, List.set_cons_succ, i64_w, i32_w]
              rfl
             refine pure_ (i := 12) (N := some 87) (v := undef) (a' := ?_) #[true, true, true, true, true, true, true, true, true, true, true, true, true, false, false] rfl rfl (any_of HT_.out (by kernel_rfl)) (fun _ _ _ h => h) (Or.inr ⟨by rfl, rfl⟩) ?_ ?_
             rotate_left
             ·simp only [Act.put, List.setIfInBounds_toArray, List.set_cons_zero, List.set_cons_succ, i64_w, i32_w]
              rfl
             refine pure_ (i := 13) (N := some 88) (v := ?_) (a' := ?_) #[true, true, true, true, true, true, true, true, true, true, true, true, true, true, false] rfl rfl (any_of HT_.out (by kernel_rfl)) (fun _ _ _ h => h) (Or.inl ⟨by rfl, ?_⟩) ?_ ?_
             rotate_left
             ·intro w'
              go_simp
              with_reducible rfl
             rotate_left
             ·simp only [Act.put, List.setIfInBounds_toArray, List.set_cons_zero, List.set_cons_succ, i64_w, i32_w]
              rfl
             refine pure_ (i := 14) (N := some 6) (v := ?_) (a' := ?_) #[true, true, true, true, true, true, true, true, true, true, true, true, true, true, true] rfl rfl (any_of HT_.out (by kernel_rfl)) (fun _ _ _ h => h) (Or.inl ⟨by rfl, ?_⟩) ?_ ?_
             rotate_left
             ·intro w'
              go_simp
              with_reducible rfl
             rotate_left
             ·simp only [Act.put, List.setIfInBounds_toArray, List.set_cons_zero, List.set_cons_succ, i64_w, i32_w]
              rfl
             refine done_ (done_of HT_.out (by kernel_rfl)) ?_
             try go_wp2
             go_ret
             exact ⟨by first | rfl | (simp [errW_none, errW_some] <;> rfl) | (simp [*, errW_none, errW_some] <;> rfl), by repeat (first | (with_reducible first | exact HB.out | apply below_alloc | apply pw_below_drewN | apply below_drew1 | refine below_set ?_ GE1182.out | refine below_set ?_ GE1200.out) | exact HB.out)⟩
            ·rw [if_neg c66] at H
             have c66b0 : (x2_9 == 0) = false := beq_eq_false_iff_ne.mpr c66
             have c66b1 : (x2_9 != 0) = true := bne_iff_ne.mpr c66
             replace H := Option.bind_eq_some_iff.mp H
             obtain ⟨t1204, A680, H⟩ := H
             replace H : ((amqvalue_Check.f a0_0 a0_1 a0_2 l0_3 (wrap64 (x2_9 - 1))).bind fun t1205 => (some ((t1204 == 0) == (t1205 == 0)))) = some r := H
             have A68 := Aside0.mk A680
             clear A680
             replace H := Option.bind_eq_some_iff.mp H
             obtain ⟨t1205, A690, H⟩ := H
             replace H : (some ((t1204 == 0) == (t1205 == 0))) = some r := H
             have A69 := Aside0.mk A690
             clear A690
             obtain rfl := Option.some.inj H
             try go_wp2
             have n0_ := Aside0.mk (Kd.V_drew HO_1183003.out)
             have n1_ := Aside0.mk (Kd.V_drew HO_1201003.out)
             have n2_ := Aside0.mk (blk_drew BK1182.out)
             have n3_ := Aside0.mk (blk_drew BK1200.out)
             have n4_ := Aside0.mk (below_drew1 HB.out)
             clear HO_1183003
             clear HO_1201003
             clear BK1182
             clear BK1200
             clear HB
             have HO_1183003 := n0_
             have HO_1201003 := n1_
             have BK1182 := n2_
             have BK1200 := n3_
             have HB := n4_
             clear n0_ n1_ n2_ n3_ n4_
             refine start_ (n := 15) (S := fun w' => w'.cell? ⟨gb1200, 0, none⟩ = some (.int .i64 t1194) ∧ w'.cell? ⟨gb1200, 1, none⟩ = some (.int .u64 t1195) ∧ w'.cell? ⟨gb1200, 2, none⟩ = some (.string t1196) ∧ w'.cell? ⟨gb1200, 3, none⟩ = some (.slice Ao43 t1197.length co43) ∧ w'.cell? ⟨gb1182, 0, none⟩ = some (.int .i64 a0_0) ∧ w'.cell? ⟨gb1182, 1, none⟩ = some (.int .u64 a0_1) ∧ w'.cell? ⟨gb1182, 2, none⟩ = some (.string a0_2) ∧ w'.cell? ⟨gb1182, 3, none⟩ = some (.slice A0_3 l0_3.length c0_3)) (ds := []) #[false, false, false, false, false, false, false, false, false, false, false, false, false, false, false] (by kernel_rfl) rfl rfl ⟨(blk_cell BK1200.out 0).trans rfl, (blk_cell BK1200.out 1).trans rfl, (blk_cell BK1200.out 2).trans rfl, (blk_cell BK1200.out 3).trans rfl, (blk_cell BK1182.out 0).trans rfl, (blk_cell BK1182.out 1).trans rfl, (blk_cell BK1182.out 2).trans rfl, (blk_cell BK1182.out 3).trans rfl⟩ (fun hHeld => ?_); refine with_tabW polyglotlaw17_AmqvalueDepths.tab15 polyglotlaw17_AmqvalueDepths.bits15 (fun HT_ HW_ => ?_)
             generalize wc.drew = w70 at HO_1183003 HO_1201003 BK1182 BK1200 HB hHeld ⊢
             refine pure_ (i := 0) (N := some 75) (v := ?_) (a' := ?_) #[true, false, false, false, false, false, false, false, false, false, false, false, false, false, false] rfl rfl (any_of HT_.out (by kernel_rfl)) (fun _ _ _ h => h) (Or.inl ⟨by rfl, ?_⟩) ?_ ?_
             rotate_left
             ·intro w'
              go_simp
              with_reducible rfl
             rotate_left
             ·simp only [Act.put, List.setIfInBounds_toArray, List.set_cons_zero, List.set_cons_succ, i64_w, i32_w]
              rfl
             refine pure_ (i := 1) (N := some 76) (v := ?_) (a' := ?_) #[true, true, false, false, false, false, false, false, false, false, false, false, false, false, false] rfl rfl (any_of HT_.out (by kernel_rfl)) (fun _ _ _ h => h) (Or.inl ⟨by rfl, ?_⟩) ?_ ?_
             rotate_left
             ·intro w'
              go_simp
              with_reducible rfl
             rotate_left
             ·simp only [Act.put, List.setIfInBounds_toArray, List.set_cons_zero, List.set_cons_succ, i64_w, i32_w]
              rfl
             refine pure_ (i := 2) (N := some 77) (v := ?_) (a' := ?_) #[true, true, true, false, false, false, false, false, false, false, false, false, false, false, false] rfl rfl (any_of HT_.out (by kernel_rfl)) (fun _ _ _ h => h) (Or.inl ⟨by rfl, ?_⟩) ?_ ?_
             rotate_left
             ·intro w'
              go_simp
              with_reducible rfl
             rotate_left
             ·simp only [Act.put, List.setIfInBounds_toArray, List.set_cons_zero, List.set_cons_succ, i64_w, i32_w]
              rfl
             refine pure_ (i := 4) (N := some 79) (v := ?_) (a' := ?_) #[true, true, true, false, true, false, false, false, false, false, false, false, false, false, false] rfl rfl (any_of HT_.out (by kernel_rfl)) (fun _ _ _ h => h) (Or.inl ⟨by rfl, ?_⟩) ?_ ?_
             rotate_left
             ·intro w'
              go_simp
              with_reducible rfl
             rotate_left
             ·simp only [Act.put, List.setIfInBounds_toArray, List.set_cons_zero, List.set_cons_succ, i64_w, i32_w]
              rfl
             refine pure_ (i := 8) (N := some 83) (v := ?_) (a' := ?_) #[true, true, true, false, true, false, false, false, true, false, false, false, false, false, false] rfl rfl (any_of HT_.out (by kernel_rfl)) (fun _ _ _ h => h) (Or.inl ⟨by rfl, ?_⟩) ?_ ?_
             rotate_left
             ·intro w'
              go_simp
              with_reducible rfl
             rotate_left
             ·simp only [Act.put, List.setIfInBounds_toArray, List.set_cons_zero, List.set_cons_succ, i64_w, i32_w]
              rfl
             refine pure_ (i := 9) (N := some 84) (v := ?_) (a' := ?_) #[true, true, true, false, true, false, false, false, true, true, false, false, false, false, false] rfl rfl (any_of HT_.out (by kernel_rfl)) (fun _ _ _ h => h) (Or.inl ⟨by rfl, ?_⟩) ?_ ?_
             rotate_left
             ·intro w'
              go_simp
              with_reducible rfl
             rotate_left
             ·simp only [Act.put, List.setIfInBounds_toArray, List.set_cons_zero, List.set_cons_succ, i64_w, i32_w]
              rfl
             refine take_ (i := 3) (N := some 78) (v := ?_) (a' := ?_) #[true, true, true, true, true, false, false, false, true, true, false, false, false, false, false] rfl rfl (take_ofW HT_.out HW_.out (by kernel_rfl)) (fun _ _ _ h => h) (Or.inl ⟨by rfl, ?_⟩) hHeld ?_ ?_
             rotate_left
             ·rintro w' ⟨s0, s1, s2, s3, s4, s5, s6, s7⟩
              go_simp
              with_reducible rfl
             rotate_left
             ·simp only [Act.put, List.setIfInBounds_toArray, List.set_cons_zero, List.set_cons_succ, i64_w, i32_w]
              rfl
             refine take_ (i := 7) (N := some 82) (v := ?_) (a' := ?_) #[true, true, true, true, true, false, false, true, true, true, false, false, false, false, false] rfl rfl (take_ofW HT_.out HW_.out (by kernel_rfl)) (fun _ _ _ h => h) (Or.inl ⟨by rfl, ?_⟩) hHeld ?_ ?_
             rotate_left
             ·rintro w' ⟨s0, s1, s2, s3, s4, s5, s6, s7⟩
              go_simp
              with_reducible rfl
             rotate_left
             ·simp only [Act.put, List.setIfInBounds_toArray, List.set_cons_zero, List.set_cons_succ, i64_w, i32_w]
              rfl
             refine one_ (i := 5) (N := some 80) #[true, true, true, true, true, true, false, true, true, true, false, false, false, false, false] rfl rfl (one_of HT_.out (by kernel_rfl)) (by decide) (fun K hK => ?_)
             refine goes_ Tryd.func49 (by kernel_rfl) rfl #[.agg #[.int .i64 t1194, .int .u64 t1195, .string t1196, .slice Ao43 t1197.length co43], .int .i64 x2_9] (by rfl) rfl rfl (by (try simp only [List.map_toArray, List.map_cons, List.map_nil]); first | done | rfl | (simp only [List.length_drop, List.length_take]; rfl)) ?_
             with_reducible refine (amqvalue_Check.calls t1194 t1195 t1196 _ _ t1197 x2_9 t1204 _ ?side1 ?side2 ?side3 A68.out).mono ?_
             (case side1 => exact HT.out.below (by repeat (first | (with_reducible first | exact HB.out | apply below_alloc | apply pw_below_drewN | apply below_drew1 | refine below_set ?_ GE1182.out | refine below_set ?_ GE1200.out) | exact HB.out)))
             (case side2 => repeat (first | exact (Kd.V_reads' HO_1201003.out).2.2 | (with_reducible refine Kd.C_alloc ?_ _) | (with_reducible refine Kd.C_drewN ?_ _) | (with_reducible refine Kd.C_drew ?_)))
             (case side3 => exact (Kd.V_reads' HO_1201003.out).2.1)
             rintro e w71 ⟨rfl, hb⟩
             refine ⟨_, rfl, ?_⟩
             have n0_ := Aside0.mk (Kd.V_below (by (with_reducible repeat (first | apply Kd.V_alloc | apply Kd.V_drewN | apply Kd.V_drew)); exact HO_1183003.out) hb)
             have n1_ := Aside0.mk (Kd.V_below (by (with_reducible repeat (first | apply Kd.V_alloc | apply Kd.V_drewN | apply Kd.V_drew)); exact HO_1201003.out) hb)
             have n2_ := Aside0.mk (blk_below (g := gb1182) (o := .cells #[.int .i64 a0_0, .int .u64 a0_1, .string a0_2, .slice A0_3 l0_3.length c0_3] 25 (0, 0)) (by (with_reducible repeat (first | refine blk_drewN ?_ _ | refine blk_drew ?_ | refine blk_alloc ?_ _)); exact BK1182.out) hb)
             have n3_ := Aside0.mk (blk_below (g := gb1200) (o := .cells #[.int .i64 t1194, .int .u64 t1195, .string t1196, .slice Ao43 t1197.length co43] 25 (0, 0)) (by (with_reducible repeat (first | refine blk_drewN ?_ _ | refine blk_drew ?_ | refine blk_alloc ?_ _)); exact BK1200.out) hb)
             have n4_ := Aside0.mk (below_step (by repeat (first | (with_reducible first | exact HB.out | apply below_alloc | apply pw_below_drewN | apply below_drew1 | refine below_set ?_ GE1182.out | refine below_set ?_ GE1200.out) | exact HB.out)) hb)
             clear HO_1183003
             clear HO_1201003
             clear BK1182
             clear BK1200
             clear HB
             have HO_1183003 := n0_
             have HO_1201003 := n1_
             have BK1182 := n2_
             have BK1200 := n3_
             have HB := n4_
             clear n0_ n1_ n2_ n3_ n4_
             (try clear hb)
             (try clear hb2)
             (try clear hk)
             (try clear hi)
             refine hK.out _ _ ⟨(blk_cell BK1200.out 0).trans rfl, (blk_cell BK1200.out 1).trans rfl, (blk_cell BK1200.out 2).trans rfl, (blk_cell BK1200.out 3).trans rfl, (blk_cell BK1182.out 0).trans rfl, (blk_cell BK1182.out 1).trans rfl, (blk_cell BK1182.out 2).trans rfl, (blk_cell BK1182.out 3).trans rfl⟩ (fun hHeld => ?_)
             clear hK K
             refine norm_ (a' := ?_) ?_ ?_
             rotate_left
             ·show Act.put _ (some 80) _ = _
              simp only [Act.put, List.setIfInBounds_toArray, List.set_cons_zero, List.set_cons_succ, i64_w, i32_w]
              rfl
             refine pure_ (i := 6) (N := some 81) (v := ?_) (a' := ?_) #[true, true, true, true, true, true, true, true, true, true, false, false, false, false, false] rfl rfl (any_of HT_.out (by kernel_rfl)) (fun _ _ _ h => h) (Or.inl ⟨by rfl, ?_⟩) ?_ ?_
             rotate_left
             ·intro w'
              go_simp
              with_reducible rfl
             rotate_left
             ·simp only [Act.put, List.setIfInBounds_toArray, List.set_cons_zero, List.set_cons_succ, i64_w, i32_w]
              rfl
             refine one_ (i := 10) (N := some 85) #[true, true, true, true, true, true, true, true, true, true, true, false, false, false, false] rfl rfl (one_of HT_.out (by kernel_rfl)) (by decide) (fun K hK => ?_)
             refine goes_ Tryd.func49 (by kernel_rfl) rfl #[.agg #[.int .i64 a0_0, .int .u64 a0_1, .string a0_2, .slice A0_3 l0_3.length c0_3], .int .i64 (wrap64 (x2_9 - 1))] (by rfl) rfl rfl (by (try simp only [List.map_toArray, List.map_cons, List.map_nil]); first | done | rfl | (simp only [List.length_drop, List.length_take]; rfl)) ?_
             with_reducible refine (amqvalue_Check.calls a0_0 a0_1 a0_2 _ _ l0_3 (wrap64 (x2_9 - 1)) t1205 _ ?side1 ?side2 ?side3 A69.out).mono ?_
             (case side1 => exact HT.out.below (by repeat (first | (with_reducible first | exact HB.out | apply below_alloc | apply pw_below_drewN | apply below_drew1 | refine below_set ?_ GE1182.out | refine below_set ?_ GE1200.out) | exact HB.out)))
             (case side2 => repeat (first | exact (Kd.V_reads' HO_1183003.out).2.2 | (with_reducible refine Kd.C_alloc ?_ _) | (with_reducible refine Kd.C_drewN ?_ _) | (with_reducible refine Kd.C_drew ?_)))
             (case side3 => exact (Kd.V_reads' HO_1183003.out).2.1)
             rintro e w72 ⟨rfl, hb⟩
             refine ⟨_, rfl, ?_⟩
             have n0_ := Aside0.mk (Kd.V_below (by (with_reducible repeat (first | apply Kd.V_alloc | apply Kd.V_drewN | apply Kd.V_drew)); exact HO_1183003.out) hb)
             have n1_ := Aside0.mk (Kd.V_below (by (with_reducible repeat (first | apply Kd.V_alloc | apply Kd.V_drewN | apply Kd.V_drew)); exact HO_1201003.out) hb)
             have n2_ := Aside0.mk (blk_below (g := gb1182) (o := .cells #[.int .i64 a0_0, .int .u64 a0_1, .string a0_2, .slice A0_3 l0_3.length c0_3] 25 (0, 0)) (by (with_reducible repeat (first | refine blk_drewN ?_ _ | refine blk_drew ?_ | refine blk_alloc ?_ _)); exact BK1182.out) hb)
             have n3_ := Aside0.mk (blk_below (g := gb1200) (o := .cells #[.int .i64 t1194, .int .u64 t1195, .string t1196, .slice Ao43 t1197.length co43] 25 (0, 0)) (by (with_reducible repeat (first | refine blk_drewN ?_ _ | refine blk_drew ?_ | refine blk_alloc ?_ _)); exact BK1200.out) hb)
             have n4_ := Aside0.mk (below_step (by repeat (first | (with_reducible first | exact HB.out | apply below_alloc | apply pw_below_drewN | apply below_drew1 | refine below_set ?_ GE1182.out | refine below_set ?_ GE1200.out) | exact HB.out)) hb)
             clear HO_1183003
             clear HO_1201003
             clear BK1182
             clear BK1200
             clear HB
             have HO_1183003 := n0_
             have HO_1201003 := n1_
             have BK1182 := n2_
             have BK1200 := n3_
             have HB := n4_
             clear n0_ n1_ n2_ n3_ n4_
             (try clear hb)
             (try clear hb2)
             (try clear hk)
             (try clear hi)
             refine hK.out _ _ ⟨(blk_cell BK1200.out 0).trans rfl, (blk_cell BK1200.out 1).trans rfl, (blk_cell BK1200.out 2).trans rfl, (blk_cell BK1200.out 3).trans rfl, (blk_cell BK1182.out 0).trans rfl, (blk_cell BK1182.out 1).trans rfl, (blk_cell BK1182.out 2).trans rfl, (blk_cell BK1182.out 3).trans rfl⟩ (fun hHeld => ?_)
             clear hK K
             refine norm_ (a' := ?_) ?_ ?_
             rotate_left
             ·show Act.put _ (some 85) _ = _
              simp only [Act.put, List.setIfInBounds_toArray, List.set_cons_zero, List.set_cons_succ, i64_w, i32_w]
              rfl
             refine pure_ (i := 11) (N := some 86) (v := ?_) (a' := ?_) #[true, true, true, true, true, true, true, true, true, true, true, true, false, false, false] rfl rfl (any_of HT_.out (by kernel_rfl)) (fun _ _ _ h => h) (Or.inl ⟨by rfl, ?_⟩) ?_ ?_
             rotate_left
             ·intro w'
              go_simp
              with_reducible rfl
             rotate_left
             ·simp only [Act.put, List.setIfInBounds_toArray, List.set_cons_zero, List.set_cons_succ, i64_w, i32_w]
              rfl
             refine pure_ (i := 12) (N := some 87) (v := ?_) (a' := ?_) #[true, true, true, true, true, true, true, true, true, true, true, true, true, false, false] rfl rfl (any_of HT_.out (by kernel_rfl)) (fun _ _ _ h => h) (Or.inl ⟨by rfl, ?_⟩) ?_ ?_
             rotate_left
             ·intro w'
              go_simp
              with_reducible rfl
             rotate_left
             ·simp only [Act.put, List.setIfInBounds_toArray, List.set_cons_zero, List.set_cons_succ, i64_w, i32_w]
              rfl
             refine pure_ (i := 13) (N := some 88) (v := ?_) (a' := ?_) #[true, true, true, true, true, true, true, true, true, true, true, true, true, true, false] rfl rfl (any_of HT_.out (by kernel_rfl)) (fun _ _ _ h => h) (Or.inl ⟨by rfl, ?_⟩) ?_ ?_
             rotate_left
             ·intro w'
              go_simp
              with_reducible rfl
             rotate_left
             ·simp only [Act.put, List.setIfInBounds_toArray, List.set_cons_zero, List.set_cons_succ, i64_w, i32_w]
              rfl
             refine pure_ (i := 14) (N := some 6) (v := ?_) (a' := ?_) #[true, true, true, true, true, true, true, true, true, true, true, true, true, true, true] rfl rfl (any_of HT_.out (by kernel_rfl)) (fun _ _ _ h => h) (Or.inl ⟨by rfl, ?_⟩) ?_ ?_
             rotate_left
             ·intro w'
              go_simp
              with_reducible rfl
             rotate_left
             ·simp only [Act.put, List.setIfInBounds_toArray, List.set_cons_zero, List.set_cons_succ, i64_w, i32_w]
              rfl
             refine done_ (done_of HT_.out (by kernel_rfl)) ?_
             try go_wp2
             go_ret
             exact ⟨by first | rfl | (simp [errW_none, errW_some] <;> rfl) | (simp [*, errW_none, errW_some] <;> rfl), by repeat (first | (with_reducible first | exact HB.out | apply below_alloc | apply pw_below_drewN | apply below_drew1 | refine below_set ?_ GE1182.out | refine below_set ?_ GE1200.out) | exact HB.out)⟩
   ·replace c7 := Bool.eq_false_iff.mpr c7
    subst c7
    have H1 : (some true) = some r := by rw [if_neg (show ¬ (false = true) by decide)] at H; exact H
    clear H
    have H := H1
    clear H1
    obtain rfl := Option.some.inj H
    go_enter Tryd.func12, Tryd.ntmps12
    go_wp2_with (first | ((with_reducible refine gate_dst (N := 3) rfl ?_); refine box_event ?hg (N := 3) ?hd (cs := #[.int .i64 a0_0, .int .u64 a0_1, .string a0_2, .slice A0_3 l0_3.length c0_3]) (t := 25) ?hr ?_; (case hd => rfl); (case hg => rfl); (case hr => first | (go_simp; done) | (go_simp; rfl)); intro gb1182 hg w73 hbox hb; have n0_ := Aside0.mk (Kd.V_below (Kd.V_elderB (by (with_reducible repeat (first | apply Kd.V_alloc | apply Kd.V_drewN | apply Kd.V_drew)); exact HO0_3.out) gb1182 (Nat.le_of_eq hg.symm)) hb); have n1_ := Aside0.mk (below_step (by repeat (first | (with_reducible first | exact HB.out | apply below_alloc | apply pw_below_drewN | apply below_drew1) | exact HB.out)) hb); have n2_ := Aside0.mk (hbox); have n3_ := Aside0.mk ((by rw [hg]; exact (below_size (by repeat (first | (with_reducible first | exact HB.out | apply below_alloc | apply pw_below_drewN | apply below_drew1) | exact HB.out))) : w.heap.size ≤ gb1182)); have n4_ := Aside0.mk ((by rw [hg]; exact (below_size (by repeat (first | (with_reducible first | exact HB.out | apply below_alloc | apply pw_below_drewN | apply below_drew1) | exact HB.out))) : w.heap.size ≤ gb1182)); clear HO0_3; clear HB; have HO0_3 := n0_; have HB := n1_; have BK1182 := n2_; have GW1182 := n3_; have GE1182 := n4_; clear n0_ n1_ n2_ n3_ n4_; clear hb hbox hg) | ((with_reducible refine gate_callee (f := 27) rfl ?_); refine goesL_ (some 12) rfl rfl Tryd.func27 (by kernel_rfl) rfl #[] rfl (by (try simp only [List.map_toArray, List.map_cons, List.map_nil]); first | done | rfl | (simp only [List.length_drop, List.length_take]; rfl)) ?_; (with_reducible refine (polyglotlaw17_lives.calls k  true _ ?side1 A4.out).mono ?_); (case side1 => exact HT.out.below (by repeat (first | (with_reducible first | exact HB.out | apply below_alloc | apply pw_below_drewN | apply below_drew1 | refine below_set ?_ GE1182.out) | exact HB.out))); rintro e w74 ⟨rfl, hb⟩; refine ⟨_, rfl, ?_⟩; have n0_ := Aside0.mk (Kd.V_below (by (with_reducible repeat (first | apply Kd.V_alloc | apply Kd.V_drewN | apply Kd.V_drew)); exact HO0_3.out) hb); have n1_ := Aside0.mk (blk_below (g := gb1182) (o := .cells #[.int .i64 a0_0, .int .u64 a0_1, .string a0_2, .slice A0_3 l0_3.length c0_3] 25 (0, 0)) (by (with_reducible repeat (first | refine blk_drewN ?_ _ | refine blk_drew ?_ | refine blk_alloc ?_ _)); exact BK1182.out) hb); have n2_ := Aside0.mk (below_step (by repeat (first | (with_reducible first | exact HB.out | apply below_alloc | apply pw_below_drewN | apply below_drew1 | refine below_set ?_ GE1182.out) | exact HB.out)) hb); clear HO0_3; clear BK1182; clear HB; have HO0_3 := n0_; have BK1182 := n1_; have HB := n2_; clear n0_ n1_ n2_; (try clear hb); (try clear hb2); (try clear hk); (try clear hi); have hcz75_0 : w74.cell? ⟨gb1182, 0, none⟩ = some (.int .i64 a0_0) := (blk_cell BK1182.out 0).trans rfl; have hcz75_1 : w74.cell? ⟨gb1182, 1, none⟩ = some (.int .u64 a0_1) := (blk_cell BK1182.out 1).trans rfl; have hcz75_2 : w74.cell? ⟨gb1182, 2, none⟩ = some (.string a0_2) := (blk_cell BK1182.out 2).trans rfl; have hcz75_3 : w74.cell? ⟨gb1182, 3, none⟩ = some (.slice A0_3 l0_3.length c0_3) := (blk_cell BK1182.out 3).trans rfl; have hfz75_0 := blk_frozen BK1182.out 0; have hfz75_1 := blk_frozen BK1182.out 1; have hfz75_2 := blk_frozen BK1182.out 2; have hfz75_3 := blk_frozen BK1182.out 3) | ((with_reducible refine gate_callee (f := 19) rfl ?_); refine goesL_ (some 15) rfl rfl Tryd.func19 (by kernel_rfl) rfl #[.agg #[.int .i64 a0_0, .int .u64 a0_1, .string a0_2, .slice A0_3 l0_3.length c0_3]] rfl (by (try simp only [List.map_toArray, List.map_cons, List.map_nil]); first | done | rfl | (simp only [List.length_drop, List.length_take]; rfl)) ?_; (with_reducible refine (polyglotkit_LightValue.calls k a0_0 a0_1 a0_2 _ _ l0_3 false _ ?side1 ?side2 A6.out).mono ?_); (case side1 => repeat (first | exact (Kd.V_reads' HO0_3.out).2.2 | (with_reducible refine Kd.C_alloc ?_ _) | (with_reducible refine Kd.C_drewN ?_ _) | (with_reducible refine Kd.C_drew ?_))); (case side2 => exact (Kd.V_reads' HO0_3.out).2.1); rintro e w76 ⟨rfl, hb⟩; refine ⟨_, rfl, ?_⟩; have n0_ := Aside0.mk (Kd.V_below (by (with_reducible repeat (first | apply Kd.V_alloc | apply Kd.V_drewN | apply Kd.V_drew)); exact HO0_3.out) hb); have n1_ := Aside0.mk (blk_below (g := gb1182) (o := .cells #[.int .i64 a0_0, .int .u64 a0_1, .string a0_2, .slice A0_3 l0_3.length c0_3] 25 (0, 0)) (by (with_reducible repeat (first | refine blk_drewN ?_ _ | refine blk_drew ?_ | refine blk_alloc ?_ _)); exact BK1182.out) hb); have n2_ := Aside0.mk (below_step (by repeat (first | (with_reducible first | exact HB.out | apply below_alloc | apply pw_below_drewN | apply below_drew1 | refine below_set ?_ GE1182.out) | exact HB.out)) hb); clear HO0_3; clear BK1182; clear HB; have HO0_3 := n0_; have BK1182 := n1_; have HB := n2_; clear n0_ n1_ n2_; (try clear hb); (try clear hb2); (try clear hk); (try clear hi)))
    go_ret
    exact ⟨by first | rfl | (simp [errW_none, errW_some] <;> rfl) | (simp [*, errW_none, errW_some] <;> rfl), by repeat (first | (with_reducible first | exact HB.out | apply below_alloc | apply pw_below_drewN | apply below_drew1 | refine below_set ?_ GE1182.out) | exact HB.out)⟩
  ·replace c5 := Bool.eq_false_iff.mpr c5
   subst c5
   have H1 : (none) = some r := by rw [if_neg (show ¬ (false = true) by decide)] at H; exact H
   clear H
   have H := H1
   clear H1
   exact absurd H (by simp)
end Go.Proofs.YtekpofpgkokoiaaDoor.Q
