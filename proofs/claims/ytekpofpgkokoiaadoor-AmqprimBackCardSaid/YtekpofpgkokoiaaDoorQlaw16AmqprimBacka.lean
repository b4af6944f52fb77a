-- PRINTED by print.py (a twelfth state) out of the translation. Not trusted: Lean checks it.
import Derived.Test.YtekpofpgkokoiaaDoorQ0
import Derived.Test.YtekpofpgkokoiaaDoorQpolyglotkitaD
import Derived.Test.YtekpofpgkokoiaaDoorQlaw16livesaD
import Derived.Test.YtekpofpgkokoiaaDoorQkitSameaD
import Derived.Test.YtekpofpgkokoiaaDoorQamqprimaD
import Derived.Test.YtekpofpgkokoiaaDoorQlaw16AmqprimBackaD
import Derived.Test.YtekpofpgkokoiaaDoorQpolyglotkita
import Derived.Test.YtekpofpgkokoiaaDoorQlaw16livesa
import Derived.Test.YtekpofpgkokoiaaDoorQkitSamea
import Derived.Test.YtekpofpgkokoiaaDoorQamqprima
namespace Go.Proofs.YtekpofpgkokoiaaDoor.Q
open Go.RowKit Go.Proofs.YtekpofpgkokoiaaDoor.M Go.Proofs.YtekpofpgkokoiaaDoorW.PrintWords Go.Proofs.YtekpofpgkokoiaaDoorW.PrintLast Go.Proofs.YtekpofpgkokoiaaDoorW.PrintMore
attribute [local go_sem] max2_int min2_int max_two min_two max_three min_three max_four min_four   -- for this text's walks alone
set_option linter.unusedVariables false
set_option linter.unusedSimpArgs false

/-! ### polyglotlaw16_AmqprimBack: function 8 -/
def polyglotlaw16_AmqprimBack.T11 : Bool × List (List Nat × List Nat) := (true, [([], []), ([], []), ([0, 1], [0, 1]), ([2], [2]), ([], []), ([3, 4], [3, 4]), ([5], [5]), ([6], [6]), ([6], [6]), ([7, 5, 0, 1, 2, 3, 4, 5, 6, 7], [7]), ([8, 9, 0, 1, 2, 3, 4, 5, 6, 7, 8, 9], [8])])
def polyglotlaw16_AmqprimBack.B11 : List Nat := [0, 0, 3, 7, 0, 31, 63, 127, 127, 255, 1023]
theorem polyglotlaw16_AmqprimBack.tab11 : rtab .any (opsOf Tryd.f8 11) = polyglotlaw16_AmqprimBack.T11 := by kernel_rfl
theorem polyglotlaw16_AmqprimBack.bits11 : waitsOk polyglotlaw16_AmqprimBack.T11.2 polyglotlaw16_AmqprimBack.B11 = true := by kernel_rfl
def polyglotlaw16_AmqprimBack.T12 : Bool × List (List Nat × List Nat) := (true, [([], []), ([0], [0]), ([], []), ([], []), ([2, 3], [2, 3]), ([4], [4]), ([], []), ([5, 6], [5, 6]), ([1, 7], [1, 7])])
def polyglotlaw16_AmqprimBack.B12 : List Nat := [0, 1, 0, 0, 12, 28, 0, 124, 255]
theorem polyglotlaw16_AmqprimBack.tab12 : rtab .any (opsOf Tryd.f8 12) = polyglotlaw16_AmqprimBack.T12 := by kernel_rfl
theorem polyglotlaw16_AmqprimBack.bits12 : waitsOk polyglotlaw16_AmqprimBack.T12.2 polyglotlaw16_AmqprimBack.B12 = true := by kernel_rfl
set_option maxHeartbeats 8000000 in
set_option maxRecDepth 100000 in
theorem polyglotlaw16_AmqprimBack.calls (k : Nat) (a0_0 : Int) (a0_1 : Int) (a0_2 : ByteArray) (A0_3 : Option Addr) (c0_3 : Nat) (l0_3 : List (Vl)) (a1 : ByteArray) (a2 : Int) (r : Bool) (w : World) (hT : Tb w) (hr0_3 : Kd.C kV w A0_3 l0_3.length l0_3) (hc0_3 : l0_3.length ≤ c0_3) (h : polyglotlaw16_AmqprimBack.f k a0_0 a0_1 a0_2 l0_3 a1 a2 = some r) :
    Calls Tryd.prog 8 #[.agg #[.int .i64 a0_0, .int .u64 a0_1, .string a0_2, .slice A0_3 l0_3.length c0_3], .string a1, .int .i64 a2] w fun e w' => e = .returned (.bool r) ∧ Below w.heap.size w w' := by
  have hu25 := Tryd.underlying25
  have HR0_3 := Aside0.mk hr0_3
  have HC0_3 := Aside0.mk hc0_3
  clear hr0_3 hc0_3
  have HB := Aside0.mk (Below.refl w.heap.size w)
  have HT := Aside0.mk hT
  clear hT
  have H : ((polyglotlaw16_lives.f).bind fun t996 => (if t996 = true then ((polyglotkit_LightValue.f k a0_0 a0_1 a0_2 l0_3).bind fun t997 => (if t997 = true then (polyglotlaw16_AmqprimBack.j0 k a1 a2 (decide ((a1.size : Int) > 600)) a0_0 a0_1 a0_2 l0_3) else (polyglotlaw16_AmqprimBack.j0 k a1 a2 true a0_0 a0_1 a0_2 l0_3))) else (none))) = some r := h
  clear h
  replace H := Option.bind_eq_some_iff.mp H
  obtain ⟨t996, A40, H⟩ := H
  replace H : (if t996 = true then ((polyglotkit_LightValue.f k a0_0 a0_1 a0_2 l0_3).bind fun t997 => (if t997 = true then (polyglotlaw16_AmqprimBack.j0 k a1 a2 (decide ((a1.size : Int) > 600)) a0_0 a0_1 a0_2 l0_3) else (polyglotlaw16_AmqprimBack.j0 k a1 a2 true a0_0 a0_1 a0_2 l0_3))) else (none)) = some r := H
  have A4 := Aside0.mk A40
  clear A40
  by_cases c5 : t996 = true
  ·subst c5
   have H1 : ((polyglotkit_LightValue.f k a0_0 a0_1 a0_2 l0_3).bind fun t997 => (if t997 = true then (polyglotlaw16_AmqprimBack.j0 k a1 a2 (decide ((a1.size : Int) > 600)) a0_0 a0_1 a0_2 l0_3) else (polyglotlaw16_AmqprimBack.j0 k a1 a2 true a0_0 a0_1 a0_2 l0_3))) = some r := by rw [if_pos rfl] at H; exact H
   clear H
   have H := H1
   clear H1
   have HC6 := Aside0.mk H
   clear H
   go_enter Tryd.func8, Tryd.ntmps8
   go_upto_region 3 with (first | ((with_reducible refine gate_dst (N := 3) rfl ?_); (try (refine gate_guard (by rfl) ?_; dsimp only)); refine box_event ?hg (N := 3) ?hd (cs := #[.int .i64 a0_0, .int .u64 a0_1, .string a0_2, .slice A0_3 l0_3.length c0_3]) (t := 25) ?hr ?_; (case hd => rfl); (case hg => rfl); (case hr => first | (go_simp; done) | (go_simp; rfl)); intro gb995 hg w7 hbox hb; have n0_ := Aside0.mk (below_step (by repeat (first | (with_reducible first | exact HB.out | apply below_alloc | apply pw_below_drewN | apply below_drew1) | exact HB.out)) hb); have n1_ := Aside0.mk (hbox); have n2_ := Aside0.mk ((by rw [hg]; exact (below_size (by repeat (first | (with_reducible first | exact HB.out | apply below_alloc | apply pw_below_drewN | apply below_drew1) | exact HB.out))) : w.heap.size ≤ gb995)); have n3_ := Aside0.mk ((by rw [hg]; exact (below_size (by repeat (first | (with_reducible first | exact HB.out | apply below_alloc | apply pw_below_drewN | apply below_drew1) | exact HB.out))) : w.heap.size ≤ gb995)); clear HB; have HB := n0_; have BK995 := n1_; have GW995 := n2_; have GE995 := n3_; clear n0_ n1_ n2_ n3_; clear hb hbox hg) | ((with_reducible refine gate_callee (f := 18) rfl ?_); refine goesL_ (some 22) rfl rfl Tryd.func18 (by kernel_rfl) rfl #[] rfl (by (try simp only [List.map_toArray, List.map_cons, List.map_nil]); first | done | rfl | (simp only [List.length_drop, List.length_take]; rfl)) ?_; (with_reducible refine (polyglotlaw16_lives.calls  true _ ?side1 A4.out).mono ?_); (case side1 => exact HT.out.below (by repeat (first | (with_reducible first | exact HB.out | apply below_alloc | apply pw_below_drewN | apply below_drew1 | refine below_set ?_ GE995.out) | exact HB.out))); rintro e w8 ⟨rfl, hb⟩; refine ⟨_, rfl, ?_⟩; have n0_ := Aside0.mk (blk_below (g := gb995) (o := .cells #[.int .i64 a0_0, .int .u64 a0_1, .string a0_2, .slice A0_3 l0_3.length c0_3] 25 (0, 0)) (by (with_reducible repeat (first | refine blk_drewN ?_ _ | refine blk_drew ?_ | refine blk_alloc ?_ _)); exact BK995.out) hb); have n1_ := Aside0.mk (below_step (by repeat (first | (with_reducible first | exact HB.out | apply below_alloc | apply pw_below_drewN | apply below_drew1 | refine below_set ?_ GE995.out) | exact HB.out)) hb); clear BK995; clear HB; have BK995 := n0_; have HB := n1_; clear n0_ n1_; (try clear hb); (try clear hb2); (try clear hk); (try clear hi)))
   (try simp only [Act.put, List.setIfInBounds_toArray, List.set_cons_zero, List.set_cons_succ])
   go_cut [31] (fun v31 wc => ∃ (kq : Nat) (x31_5 : Bool), v31 = .bool x31_5 ∧ Aside0 (polyglotlaw16_AmqprimBack.j0 kq a1 a2 x31_5 a0_0 a0_1 a0_2 l0_3 = some r) ∧ Aside0 (kq ≤ k) ∧ Aside0 (wc.heap[gb995]? = some (.cells #[.int .i64 a0_0, .int .u64 a0_1, .string a0_2, (.slice A0_3 l0_3.length c0_3)] 25 (0, 0))) ∧ Aside0 (Below w.heap.size w wc))
   case first =>
    have H := HC6.out
    clear HC6
    replace H := Option.bind_eq_some_iff.mp H
    obtain ⟨t997, A90, H⟩ := H
    replace H : (if t997 = true then (polyglotlaw16_AmqprimBack.j0 k a1 a2 (decide ((a1.size : Int) > 600)) a0_0 a0_1 a0_2 l0_3) else (polyglotlaw16_AmqprimBack.j0 k a1 a2 true a0_0 a0_1 a0_2 l0_3)) = some r := H
    have A9 := Aside0.mk A90
    clear A90
    by_cases c10 : t997 = true
    ·subst c10
     have H1 : (polyglotlaw16_AmqprimBack.j0 k a1 a2 (decide ((a1.size : Int) > 600)) a0_0 a0_1 a0_2 l0_3) = some r := by rw [if_pos rfl] at H; exact H
     clear H
     have H := H1
     clear H1
     have H' := Aside0.mk H
     clear H
     have hcz11_0 : w8.cell? ⟨gb995, 0, none⟩ = some (.int .i64 a0_0) := (blk_cell BK995.out 0).trans rfl
     have hcz11_1 : w8.cell? ⟨gb995, 1, none⟩ = some (.int .u64 a0_1) := (blk_cell BK995.out 1).trans rfl
     have hcz11_2 : w8.cell? ⟨gb995, 2, none⟩ = some (.string a0_2) := (blk_cell BK995.out 2).trans rfl
     have hcz11_3 : w8.cell? ⟨gb995, 3, none⟩ = some (.slice A0_3 l0_3.length c0_3) := (blk_cell BK995.out 3).trans rfl
     have hfz11_0 := blk_frozen BK995.out 0
     have hfz11_1 := blk_frozen BK995.out 1
     have hfz11_2 := blk_frozen BK995.out 2
     have hfz11_3 := blk_frozen BK995.out 3
     go_wp2_with (first | ((with_reducible refine gate_callee (f := 19) rfl ?_); refine goesL_ (some 25) rfl rfl Tryd.func19 (by kernel_rfl) rfl #[.agg #[.int .i64 a0_0, .int .u64 a0_1, .string a0_2, .slice A0_3 l0_3.length c0_3]] rfl (by (try simp only [List.map_toArray, List.map_cons, List.map_nil]); first | done | rfl | (simp only [List.length_drop, List.length_take]; rfl)) ?_; (with_reducible refine (polyglotkit_LightValue.calls k a0_0 a0_1 a0_2 _ _ l0_3 true _ ?side1 ?side2 A9.out).mono ?_); (case side1 => repeat (first | exact (Kd.C_below HR0_3.out HB.out) | (with_reducible refine Kd.C_alloc ?_ _) | (with_reducible refine Kd.C_drewN ?_ _) | (with_reducible refine Kd.C_drew ?_))); (case side2 => exact HC0_3.out); rintro e w12 ⟨rfl, hb⟩; refine ⟨_, rfl, ?_⟩; have n0_ := Aside0.mk (blk_below (g := gb995) (o := .cells #[.int .i64 a0_0, .int .u64 a0_1, .string a0_2, .slice A0_3 l0_3.length c0_3] 25 (0, 0)) (by (with_reducible repeat (first | refine blk_drewN ?_ _ | refine blk_drew ?_ | refine blk_alloc ?_ _)); exact BK995.out) hb); have n1_ := Aside0.mk (below_step (by repeat (first | (with_reducible first | exact HB.out | apply below_alloc | apply pw_below_drewN | apply below_drew1 | refine below_set ?_ GE995.out) | exact HB.out)) hb); clear BK995; clear HB; have BK995 := n0_; have HB := n1_; clear n0_ n1_; (try clear hb); (try clear hb2); (try clear hk); (try clear hi)))
     go_meet
     case rel => exact ⟨_, (decide ((a1.size : Int) > 600)), (by first | rfl | (simp; done) | (simp [*]; done)), H', ⟨by first | omega | exact Nat.le_refl _⟩, ⟨by (with_reducible repeat (first | refine blk_drewN ?_ _ | refine blk_drew ?_ | refine blk_alloc ?_ _)); exact BK995.out⟩, ⟨by repeat (first | (with_reducible first | exact HB.out | apply below_alloc | apply pw_below_drewN | apply below_drew1 | refine below_set ?_ GE995.out) | exact HB.out)⟩⟩
    ·replace c10 := Bool.eq_false_iff.mpr c10
     subst c10
     have H1 : (polyglotlaw16_AmqprimBack.j0 k a1 a2 true a0_0 a0_1 a0_2 l0_3) = some r := by rw [if_neg (show ¬ (false = true) by decide)] at H; exact H
     clear H
     have H := H1
     clear H1
     have H' := Aside0.mk H
     clear H
     have hcz13_0 : w8.cell? ⟨gb995, 0, none⟩ = some (.int .i64 a0_0) := (blk_cell BK995.out 0).trans rfl
     have hcz13_1 : w8.cell? ⟨gb995, 1, none⟩ = some (.int .u64 a0_1) := (blk_cell BK995.out 1).trans rfl
     have hcz13_2 : w8.cell? ⟨gb995, 2, none⟩ = some (.string a0_2) := (blk_cell BK995.out 2).trans rfl
     have hcz13_3 : w8.cell? ⟨gb995, 3, none⟩ = some (.slice A0_3 l0_3.length c0_3) := (blk_cell BK995.out 3).trans rfl
     have hfz13_0 := blk_frozen BK995.out 0
     have hfz13_1 := blk_frozen BK995.out 1
     have hfz13_2 := blk_frozen BK995.out 2
     have hfz13_3 := blk_frozen BK995.out 3
     go_wp2_with (first | ((with_reducible refine gate_callee (f := 19) rfl ?_); refine goesL_ (some 25) rfl rfl Tryd.func19 (by kernel_rfl) rfl #[.agg #[.int .i64 a0_0, .int .u64 a0_1, .string a0_2, .slice A0_3 l0_3.length c0_3]] rfl (by (try simp only [List.map_toArray, List.map_cons, List.map_nil]); first | done | rfl | (simp only [List.length_drop, List.length_take]; rfl)) ?_; (with_reducible refine (polyglotkit_LightValue.calls k a0_0 a0_1 a0_2 _ _ l0_3 false _ ?side1 ?side2 A9.out).mono ?_); (case side1 => repeat (first | exact (Kd.C_below HR0_3.out HB.out) | (with_reducible refine Kd.C_alloc ?_ _) | (with_reducible refine Kd.C_drewN ?_ _) | (with_reducible refine Kd.C_drew ?_))); (case side2 => exact HC0_3.out); rintro e w14 ⟨rfl, hb⟩; refine ⟨_, rfl, ?_⟩; have n0_ := Aside0.mk (blk_below (g := gb995) (o := .cells #[.int .i64 a0_0, .int .u64 a0_1, .string a0_2, .slice A0_3 l0_3.length c0_3] 25 (0, 0)) (by (with_reducible repeat (first | refine blk_drewN ?_ _ | refine blk_drew ?_ | refine blk_alloc ?_ _)); exact BK995.out) hb); have n1_ := Aside0.mk (below_step (by repeat (first | (with_reducible first | exact HB.out | apply below_alloc | apply pw_below_drewN | apply below_drew1 | refine below_set ?_ GE995.out) | exact HB.out)) hb); clear BK995; clear HB; have BK995 := n0_; have HB := n1_; clear n0_ n1_; (try clear hb); (try clear hb2); (try clear hk); (try clear hi)))
     go_meet
     case rel => exact ⟨_, (true), (by first | rfl | (simp; done) | (simp [*]; done)), H', ⟨by first | omega | exact Nat.le_refl _⟩, ⟨by (with_reducible repeat (first | refine blk_drewN ?_ _ | refine blk_drew ?_ | refine blk_alloc ?_ _)); exact BK995.out⟩, ⟨by repeat (first | (with_reducible first | exact HB.out | apply below_alloc | apply pw_below_drewN | apply below_drew1 | refine below_set ?_ GE995.out) | exact HB.out)⟩⟩
   case rest =>
    clear HC6
    try clear c1
    try clear p2
    try clear c5
    try clear c8
    try clear c10
    try clear hcz11_0
    try clear hcz11_1
    try clear hcz11_2
    try clear hcz11_3
    try clear hcz13_0
    try clear hcz13_1
    try clear hcz13_2
    try clear hcz13_3
    try clear hfz11_0
    try clear hfz11_1
    try clear hfz11_2
    try clear hfz11_3
    try clear hfz13_0
    try clear hfz13_1
    try clear hfz13_2
    try clear hfz13_3
    obtain ⟨kq, x31_5, rfl, HA, HJ5, BK995, HB⟩ := hcut
    cases kq with
    | zero => exact absurd HA.out (by simp [polyglotlaw16_AmqprimBack.j0])
    | succ kj5 =>
     have H := HA.out
     clear HA
     simp only [polyglotlaw16_AmqprimBack.j0] at H
     by_cases c15 : x31_5 = true
     ·subst c15
      have H1 : (some true) = some r := by rw [if_pos rfl] at H; exact H
      clear H
      have H := H1
      clear H1
      obtain rfl := Option.some.inj H
      go_wp2
      go_ret
      exact ⟨by first | rfl | (simp [errW_none, errW_some] <;> rfl) | (simp [*, errW_none, errW_some] <;> rfl), by repeat (first | (with_reducible first | exact HB.out | apply below_alloc | apply pw_below_drewN | apply below_drew1 | refine below_set ?_ GE995.out) | exact HB.out)⟩
     ·replace c15 := Bool.eq_false_iff.mpr c15
      subst c15
      have H1 : ((amqprim_Least.f a0_0 a0_1 a0_2 l0_3).bind fun bt998 => ((amqprim_Codes.f a0_0).bind fun t1000 => (polyglotlaw16_AmqprimBack.l0 kj5 a1 a2 bt998.1 bt998.2 (-1) t1000 0 a0_0 a0_1 a0_2 l0_3))) = some r := by rw [if_neg (show ¬ (false = true) by decide)] at H; exact H
      clear H
      have H := H1
      clear H1
      replace H := Option.bind_eq_some_iff.mp H
      obtain ⟨⟨t998, t999⟩, A160, H⟩ := H
      replace H : ((amqprim_Codes.f a0_0).bind fun t1000 => (polyglotlaw16_AmqprimBack.l0 kj5 a1 a2 t998 t999 (-1) t1000 0 a0_0 a0_1 a0_2 l0_3)) = some r := H
      have A16 := Aside0.mk A160
      clear A160
      replace H := Option.bind_eq_some_iff.mp H
      obtain ⟨t1000, A170, H⟩ := H
      replace H : (polyglotlaw16_AmqprimBack.l0 kj5 a1 a2 t998 t999 (-1) t1000 0 a0_0 a0_1 a0_2 l0_3) = some r := H
      have A17 := Aside0.mk A170
      clear A170
      have H' := Aside0.mk H
      clear H
      have hcz18_0 : wc.cell? ⟨gb995, 0, none⟩ = some (.int .i64 a0_0) := (blk_cell BK995.out 0).trans rfl
      have hcz18_1 : wc.cell? ⟨gb995, 1, none⟩ = some (.int .u64 a0_1) := (blk_cell BK995.out 1).trans rfl
      have hcz18_2 : wc.cell? ⟨gb995, 2, none⟩ = some (.string a0_2) := (blk_cell BK995.out 2).trans rfl
      have hcz18_3 : wc.cell? ⟨gb995, 3, none⟩ = some (.slice A0_3 l0_3.length c0_3) := (blk_cell BK995.out 3).trans rfl
      have hfz18_0 := blk_frozen BK995.out 0
      have hfz18_1 := blk_frozen BK995.out 1
      have hfz18_2 := blk_frozen BK995.out 2
      have hfz18_3 := blk_frozen BK995.out 3
      go_wp2_with (first | ((with_reducible refine gate_callee (f := 41) rfl ?_); refine goesL_ (some 34) rfl rfl Tryd.func41 (by kernel_rfl) rfl #[.agg #[.int .i64 a0_0, .int .u64 a0_1, .string a0_2, .slice A0_3 l0_3.length c0_3]] rfl (by (try simp only [List.map_toArray, List.map_cons, List.map_nil]); first | done | rfl | (simp only [List.length_drop, List.length_take]; rfl)) ?_; (with_reducible refine (amqprim_Least.calls a0_0 a0_1 a0_2 _ _ l0_3 t998 t999 _ ?side1 ?side2 ?side3 A16.out).mono ?_); (case side1 => exact HT.out.below (by repeat (first | (with_reducible first | exact HB.out | apply below_alloc | apply pw_below_drewN | apply below_drew1 | refine below_set ?_ GE995.out) | exact HB.out))); (case side2 => repeat (first | exact (Kd.C_below HR0_3.out HB.out) | (with_reducible refine Kd.C_alloc ?_ _) | (with_reducible refine Kd.C_drewN ?_ _) | (with_reducible refine Kd.C_drew ?_))); (case side3 => exact HC0_3.out); rintro e w19 ⟨rfl, hb⟩; refine ⟨_, rfl, ?_⟩; have n0_ := Aside0.mk (blk_below (g := gb995) (o := .cells #[.int .i64 a0_0, .int .u64 a0_1, .string a0_2, .slice A0_3 l0_3.length c0_3] 25 (0, 0)) (by (with_reducible repeat (first | refine blk_drewN ?_ _ | refine blk_drew ?_ | refine blk_alloc ?_ _)); exact BK995.out) hb); have n1_ := Aside0.mk (below_step (by repeat (first | (with_reducible first | exact HB.out | apply below_alloc | apply pw_below_drewN | apply below_drew1 | refine below_set ?_ GE995.out) | exact HB.out)) hb); clear BK995; clear HB; have BK995 := n0_; have HB := n1_; clear n0_ n1_; (try clear hb); (try clear hb2); (try clear hk); (try clear hi); have hcz20_0 : w19.cell? ⟨gb995, 0, none⟩ = some (.int .i64 a0_0) := (blk_cell BK995.out 0).trans rfl; have hcz20_1 : w19.cell? ⟨gb995, 1, none⟩ = some (.int .u64 a0_1) := (blk_cell BK995.out 1).trans rfl; have hcz20_2 : w19.cell? ⟨gb995, 2, none⟩ = some (.string a0_2) := (blk_cell BK995.out 2).trans rfl; have hcz20_3 : w19.cell? ⟨gb995, 3, none⟩ = some (.slice A0_3 l0_3.length c0_3) := (blk_cell BK995.out 3).trans rfl; have hfz20_0 := blk_frozen BK995.out 0; have hfz20_1 := blk_frozen BK995.out 1; have hfz20_2 := blk_frozen BK995.out 2; have hfz20_3 := blk_frozen BK995.out 3) | ((with_reducible refine gate_callee (f := 20) rfl ?_); refine goesL_ (some 39) rfl rfl Tryd.func20 (by kernel_rfl) rfl #[.int .i64 a0_0] rfl (by (try simp only [List.map_toArray, List.map_cons, List.map_nil]); first | done | rfl | (simp only [List.length_drop, List.length_take]; rfl)) ?_; (with_reducible refine (amqprim_Codes.calls a0_0 t1000 _ A17.out).mono ?_); rintro e w21 ⟨v1001, rfl, ho0, hb⟩; refine ⟨_, rfl, ?_⟩; have n0_ := Aside0.mk (Kd.R_lower ho0 (below_size (by repeat (first | (with_reducible first | exact HB.out | apply below_alloc | apply pw_below_drewN | apply below_drew1 | refine below_set ?_ GE995.out) | exact HB.out)))); have n1_ := Aside0.mk (blk_below (g := gb995) (o := .cells #[.int .i64 a0_0, .int .u64 a0_1, .string a0_2, .slice A0_3 l0_3.length c0_3] 25 (0, 0)) (by (with_reducible repeat (first | refine blk_drewN ?_ _ | refine blk_drew ?_ | refine blk_alloc ?_ _)); exact BK995.out) hb); have n2_ := Aside0.mk (below_step (by repeat (first | (with_reducible first | exact HB.out | apply below_alloc | apply pw_below_drewN | apply below_drew1 | refine below_set ?_ GE995.out) | exact HB.out)) hb); clear BK995; clear HB; have HO1002 := n0_; have BK995 := n1_; have HB := n2_; clear n0_ n1_ n2_; (try clear hb); (try clear hb2); (try clear hk); (try clear hi); (try clear ho0)))
      go_loopg [9, 11] kj5 (fun kq v9 v11 w' => ∃ (x9_2 : Int) (x11_2 : Int), v9 = .int .i64 x9_2 ∧ v11 = .int .i64 x11_2 ∧ Aside0 (polyglotlaw16_AmqprimBack.l0 kq a1 a2 t998 t999 x9_2 t1000 x11_2 a0_0 a0_1 a0_2 l0_3 = some r) ∧ Aside0 (kq ≤ kj5) ∧ Aside0 (Kd.R (Kd.int .i64) 3 w' w.heap.size (fun _ => True) v1001 t1000) ∧ Aside0 (w'.heap[gb995]? = some (.cells #[.int .i64 a0_0, .int .u64 a0_1, .string a0_2, (.slice A0_3 l0_3.length c0_3)] 25 (0, 0))) ∧ Aside0 (Below w.heap.size w w'))
      case atStart => exact ⟨((-1)), (0), (by first | rfl | (simp; done) | (simp [*]; done)), (by first | rfl | (simp; done) | (simp [*]; done)), H', ⟨Nat.le_refl _⟩, ⟨by (with_reducible repeat (first | apply Kd.R_alloc | apply Kd.R_drewN | apply Kd.R_drew)); exact HO1002.out⟩, ⟨by (with_reducible repeat (first | refine blk_drewN ?_ _ | refine blk_drew ?_ | refine blk_alloc ?_ _)); exact BK995.out⟩, ⟨by repeat (first | (with_reducible first | exact HB.out | apply below_alloc | apply pw_below_drewN | apply below_drew1 | refine below_set ?_ GE995.out) | exact HB.out)⟩⟩
      case round =>
       clear H'
       try clear c1
       try clear c2
       try clear p2
       try clear c4
       try clear c5
       try clear c8
       try clear c10
       try clear c15
       try clear c18
       try clear c19
       try clear c20
       try clear hcz11_0
       try clear hcz11_1
       try clear hcz11_2
       try clear hcz11_3
       try clear hcz13_0
       try clear hcz13_1
       try clear hcz13_2
       try clear hcz13_3
       try clear hcz18_0
       try clear hcz18_1
       try clear hcz18_2
       try clear hcz18_3
       try clear hcz20_0
       try clear hcz20_1
       try clear hcz20_2
       try clear hcz20_3
       try clear hfz11_0
       try clear hfz11_1
       try clear hfz11_2
       try clear hfz11_3
       try clear hfz13_0
       try clear hfz13_1
       try clear hfz13_2
       try clear hfz13_3
       try clear hfz18_0
       try clear hfz18_1
       try clear hfz18_2
       try clear hfz18_3
       try clear hfz20_0
       try clear hfz20_1
       try clear hfz20_2
       try clear hfz20_3
       try clear p2
       obtain ⟨x9_2, x11_2, rfl, rfl, HA, HK2, HO_10, BK995, HB⟩ := hrel
       cases gk with
       | zero => exact absurd HA.out (by simp [polyglotlaw16_AmqprimBack.l0])
       | succ k2 =>
        have H := HA.out
        clear HA
        simp only [polyglotlaw16_AmqprimBack.l0] at H
        by_cases c22 : x11_2 < (t1000.length : Int)
        ·rw [if_pos c22] at H
         have c22b0 : decide (x11_2 < (t1000.length : Int)) = true := decide_eq_true c22
         clear c22
         by_cases c23 : 0 ≤ x11_2
         ·rw [if_pos c23] at H
          have c23b0 : decide (0 ≤ x11_2) = true := decide_eq_true c23
          clear c23
          replace H := Option.bind_eq_some_iff.mp H
          obtain ⟨⟨t1004, t1005⟩, A240, H⟩ := H
          replace H : ((amqprim_Fits.f (rd t1000 x11_2) a0_0 a0_1 a0_2 l0_3).bind fun t1007 => (if ((t1005 == 0) != t1007) = true then (none) else (if t1005 = 0 then (if t999 = 0 then (if x9_2 < 0 then (if (rd t1000 x11_2) = t998 then (if x9_2 ≥ 0 then (polyglotlaw16_AmqprimBack.j2 k2 a1 a2 t998 t999 x9_2 t1000 x11_2 t1004 (decide ((t1004.size : Int) < x9_2)) a0_0 a0_1 a0_2 l0_3) else (polyglotlaw16_AmqprimBack.j2 k2 a1 a2 t998 t999 x9_2 t1000 x11_2 t1004 false a0_0 a0_1 a0_2 l0_3)) else (polyglotlaw16_AmqprimBack.j2 k2 a1 a2 t998 t999 x9_2 t1000 x11_2 t1004 true a0_0 a0_1 a0_2 l0_3)) else (if x9_2 ≥ 0 then (polyglotlaw16_AmqprimBack.j2 k2 a1 a2 t998 t999 x9_2 t1000 x11_2 t1004 (decide ((t1004.size : Int) < x9_2)) a0_0 a0_1 a0_2 l0_3) else (polyglotlaw16_AmqprimBack.j2 k2 a1 a2 t998 t999 x9_2 t1000 x11_2 t1004 false a0_0 a0_1 a0_2 l0_3))) else (polyglotlaw16_AmqprimBack.j2 k2 a1 a2 t998 t999 x9_2 t1000 x11_2 t1004 true a0_0 a0_1 a0_2 l0_3)) else (polyglotlaw16_AmqprimBack.l0 k2 a1 a2 t998 t999 x9_2 t1000 (wrap64 (x11_2 + 1)) a0_0 a0_1 a0_2 l0_3)))) = some r := H
          have A24 := Aside0.mk A240
          clear A240
          replace H := Option.bind_eq_some_iff.mp H
          obtain ⟨t1007, A250, H⟩ := H
          replace H : (if ((t1005 == 0) != t1007) = true then (none) else (if t1005 = 0 then (if t999 = 0 then (if x9_2 < 0 then (if (rd t1000 x11_2) = t998 then (if x9_2 ≥ 0 then (polyglotlaw16_AmqprimBack.j2 k2 a1 a2 t998 t999 x9_2 t1000 x11_2 t1004 (decide ((t1004.size : Int) < x9_2)) a0_0 a0_1 a0_2 l0_3) else (polyglotlaw16_AmqprimBack.j2 k2 a1 a2 t998 t999 x9_2 t1000 x11_2 t1004 false a0_0 a0_1 a0_2 l0_3)) else (polyglotlaw16_AmqprimBack.j2 k2 a1 a2 t998 t999 x9_2 t1000 x11_2 t1004 true a0_0 a0_1 a0_2 l0_3)) else (if x9_2 ≥ 0 then (polyglotlaw16_AmqprimBack.j2 k2 a1 a2 t998 t999 x9_2 t1000 x11_2 t1004 (decide ((t1004.size : Int) < x9_2)) a0_0 a0_1 a0_2 l0_3) else (polyglotlaw16_AmqprimBack.j2 k2 a1 a2 t998 t999 x9_2 t1000 x11_2 t1004 false a0_0 a0_1 a0_2 l0_3))) else (polyglotlaw16_AmqprimBack.j2 k2 a1 a2 t998 t999 x9_2 t1000 x11_2 t1004 true a0_0 a0_1 a0_2 l0_3)) else (polyglotlaw16_AmqprimBack.l0 k2 a1 a2 t998 t999 x9_2 t1000 (wrap64 (x11_2 + 1)) a0_0 a0_1 a0_2 l0_3))) = some r := H
          have A25 := Aside0.mk A250
          clear A250
          by_cases c26 : ((t1005 == 0) != t1007) = true
          ·rw [if_pos c26] at H
           exact absurd H (by simp)
          ·rw [if_neg c26] at H
           have c26b0 : ((t1005 == 0) != t1007) = false := by simpa using c26
           (try (have c26b1 : decide ((t1005 == 0) = t1007) = true := by simpa using c26))
           (try (have c26b2 : ((t1005 == 0) == t1007) = true := by simpa using c26))
           clear c26
           by_cases c27 : t1005 = 0
           ·rw [if_pos c27] at H
            have c27b0 : (t1005 == 0) = true := beq_iff_eq.mpr c27
            have c27b1 : (t1005 != 0) = false := bne_eq_false_iff_eq.mpr c27
            clear c27
            (try (have c26b0nc27 := c26b0; simp only [c27b0, c27b1] at c26b0nc27; (try simp at c26b0nc27)))
            (try (have c26b2nc27 := c26b2; simp only [c27b0, c27b1] at c26b2nc27; (try simp at c26b2nc27)))
            have HC28 := Aside0.mk H
            clear H
            obtain ⟨Ao29, co29, eo29⟩ := Kd.R_slice HO_10.out
            subst eo29
            try go_wp2
            have n0_ := Aside0.mk (Kd.R_drew HO_10.out)
            have n1_ := Aside0.mk (blk_drew BK995.out)
            have n2_ := Aside0.mk (below_drew1 HB.out)
            clear HO_10
            clear BK995
            clear HB
            have HO_10 := n0_
            have BK995 := n1_
            have HB := n2_
            clear n0_ n1_ n2_
            have p1003 : 0 ≤ (x11_2 : Int) := of_decide_eq_true (by first | (with_reducible assumption) | assumption)
            have q1003 : x11_2 < (t1000.length : Int) := of_decide_eq_true (by first | (with_reducible assumption) | assumption)
            obtain ⟨ad1003, e1003, hx1003_0⟩ := Kd.at_int (Kd.R_reads' HO_10.out).2.2 x11_2 p1003 q1003
            cases e1003
            replace p1003 := eq_true p1003
            replace q1003 := eq_true q1003
            refine start_ (n := 11) (S := fun w' => w'.cell? ⟨gb995, 0, none⟩ = some (.int .i64 a0_0) ∧ w'.cell? ⟨gb995, 1, none⟩ = some (.int .u64 a0_1) ∧ w'.cell? ⟨gb995, 2, none⟩ = some (.string a0_2) ∧ w'.cell? ⟨gb995, 3, none⟩ = some (.slice A0_3 l0_3.length c0_3) ∧ w'.cell? (ad1003.add (x11_2).toNat) = some (.int .i64 (rd t1000 x11_2))) (ds := []) #[false, false, false, false, false, false, false, false, false, false, false] (by kernel_rfl) rfl rfl ⟨(blk_cell BK995.out 0).trans rfl, (blk_cell BK995.out 1).trans rfl, (blk_cell BK995.out 2).trans rfl, (blk_cell BK995.out 3).trans rfl, hx1003_0⟩ (fun hHeld => ?_); refine with_tabW polyglotlaw16_AmqprimBack.tab11 polyglotlaw16_AmqprimBack.bits11 (fun HT_ HW_ => ?_)
            generalize wr.drew = w30 at HO_10 BK995 HB hx1003_0 hHeld ⊢
            refine pure_ (i := 0) (N := some 47) (v := ?_) (a' := ?_) #[true, false, false, false, false, false, false, false, false, false, false] rfl rfl (any_of HT_.out (by kernel_rfl)) (fun _ _ _ h => h) (Or.inl ⟨by rfl, ?_⟩) ?_ ?_
            rotate_left
            ·intro w'
             go_simp
             with_reducible rfl
            rotate_left
            ·simp only [Act.put, List.setIfInBounds_toArray, List.set_cons_zero, List.set_cons_succ, i64_w, i32_w]
             rfl
            refine pure_ (i := 1) (N := some 48) (v := ?_) (a' := ?_) #[true, true, false, false, false, false, false, false, false, false, false] rfl rfl (any_of HT_.out (by kernel_rfl)) (fun _ _ _ h => h) (Or.inl ⟨by rfl, ?_⟩) ?_ ?_
            rotate_left
            ·intro w'
             go_simp
             with_reducible rfl
            rotate_left
            ·simp only [Act.put, List.setIfInBounds_toArray, List.set_cons_zero, List.set_cons_succ, i64_w, i32_w]
             rfl
            refine pure_ (i := 2) (N := some 49) (v := ?_) (a' := ?_) #[true, true, true, false, false, false, false, false, false, false, false] rfl rfl (any_of HT_.out (by kernel_rfl)) (fun _ _ _ h => h) (Or.inl ⟨by rfl, ?_⟩) ?_ ?_
            rotate_left
            ·intro w'
             go_simp
             with_reducible rfl
            rotate_left
            ·simp only [Act.put, List.setIfInBounds_toArray, List.set_cons_zero, List.set_cons_succ, i64_w, i32_w]
             rfl
            refine take_ (i := 3) (N := some 50) (v := ?_) (a' := ?_) #[true, true, true, true, false, false, false, false, false, false, false] rfl rfl (take_ofW HT_.out HW_.out (by kernel_rfl)) (fun _ _ _ h => h) (Or.inl ⟨by rfl, ?_⟩) hHeld ?_ ?_
            rotate_left
            ·rintro w' ⟨s0, s1, s2, s3, s4⟩
             go_simp
             with_reducible rfl
            rotate_left
            ·simp only [Act.put, List.setIfInBounds_toArray, List.set_cons_zero, List.set_cons_succ, i64_w, i32_w]
             rfl
            refine take_ (i := 4) (N := some 51) (v := ?_) (a' := ?_) #[true, true, true, true, true, false, false, false, false, false, false] rfl rfl (take_ofW HT_.out HW_.out (by kernel_rfl)) (fun _ _ _ h => h) (Or.inl ⟨by rfl, ?_⟩) hHeld ?_ ?_
            rotate_left
            ·rintro w' ⟨s0, s1, s2, s3, s4⟩
             go_simp
             with_reducible rfl
            rotate_left
            ·simp only [Act.put, List.setIfInBounds_toArray, List.set_cons_zero, List.set_cons_succ, i64_w, i32_w]
             rfl
            refine one_ (i := 5) (N := some 52) #[true, true, true, true, true, true, false, false, false, false, false] rfl rfl (one_of HT_.out (by kernel_rfl)) (by decide) (fun K hK => ?_)
            refine goes_ Tryd.func25 (by kernel_rfl) rfl #[.int .i64 (rd t1000 x11_2), .agg #[.int .i64 a0_0, .int .u64 a0_1, .string a0_2, .slice A0_3 l0_3.length c0_3]] (by rfl) rfl rfl (by (try simp only [List.map_toArray, List.map_cons, List.map_nil]); first | done | rfl | (simp only [List.length_drop, List.length_take]; rfl)) ?_
            with_reducible refine (amqprim_Put.calls (rd t1000 x11_2) a0_0 a0_1 a0_2 _ _ l0_3 t1004 t1005 _ ?side1 ?side2 ?side3 A24.out).mono ?_
            (case side1 => exact HT.out.below (by repeat (first | (with_reducible first | exact HB.out | apply below_alloc | apply pw_below_drewN | apply below_drew1 | refine below_set ?_ GE995.out) | exact HB.out)))
            (case side2 => repeat (first | exact (Kd.C_below HR0_3.out HB.out) | (with_reducible refine Kd.C_alloc ?_ _) | (with_reducible refine Kd.C_drewN ?_ _) | (with_reducible refine Kd.C_drew ?_)))
            (case side3 => exact HC0_3.out)
            rintro e w31 ⟨rfl, hb⟩
            have HS4_ := (hb.cell (World.block_lt_of_cell? _ _ (hHeld.2.2.2.2))).trans (hHeld.2.2.2.2)
            refine ⟨_, rfl, ?_⟩
            have n0_ := Aside0.mk (Kd.R_below (by (with_reducible repeat (first | apply Kd.R_alloc | apply Kd.R_drewN | apply Kd.R_drew)); exact HO_10.out) hb)
            have n1_ := Aside0.mk (blk_below (g := gb995) (o := .cells #[.int .i64 a0_0, .int .u64 a0_1, .string a0_2, .slice A0_3 l0_3.length c0_3] 25 (0, 0)) (by (with_reducible repeat (first | refine blk_drewN ?_ _ | refine blk_drew ?_ | refine blk_alloc ?_ _)); exact BK995.out) hb)
            have n2_ := Aside0.mk (below_step (by repeat (first | (with_reducible first | exact HB.out | apply below_alloc | apply pw_below_drewN | apply below_drew1 | refine below_set ?_ GE995.out) | exact HB.out)) hb)
            clear HO_10
            clear BK995
            clear HB
            have HO_10 := n0_
            have BK995 := n1_
            have HB := n2_
            clear n0_ n1_ n2_
            (try clear hb)
            (try clear hb2)
            (try clear hk)
            (try clear hi)
            refine hK.out _ _ ⟨(blk_cell BK995.out 0).trans rfl, (blk_cell BK995.out 1).trans rfl, (blk_cell BK995.out 2).trans rfl, (blk_cell BK995.out 3).trans rfl, HS4_⟩ (fun hHeld => ?_)
            clear hK K
            refine norm_ (a' := ?_) ?_ ?_
            rotate_left
            ·show Act.put _ (some 52) _ = _
             simp only [Act.put, List.setIfInBounds_toArray, List.set_cons_zero, List.set_cons_succ, i64_w, i32_w]
             rfl
            refine pure_ (i := 6) (N := some 46) (v := ?_) (a' := ?_) #[true, true, true, true, true, true, true, false, false, false, false] rfl rfl (any_of HT_.out (by kernel_rfl)) (fun _ _ _ h => h) (Or.inl ⟨by rfl, ?_⟩) ?_ ?_
            rotate_left
            ·intro w'
             go_simp
             with_reducible rfl
            rotate_left
            ·simp only [Act.put, List.setIfInBounds_toArray, List.set_cons_zero, List.set_cons_succ, i64_w, i32_w]
             rfl
            refine pure_ (i := 7) (N := some 53) (v := ?_) (a' := ?_) #[true, true, true, true, true, true, true, true, false, false, false] rfl rfl (any_of HT_.out (by kernel_rfl)) (fun _ _ _ h => h) (Or.inl ⟨by rfl, ?_⟩) ?_ ?_
            rotate_left
            ·intro w'
             go_simp
             with_reducible rfl
            rotate_left
            ·simp only [Act.put, List.setIfInBounds_toArray, List.set_cons_zero, List.set_cons_succ, i64_w, i32_w]
             rfl
            refine pure_ (i := 8) (N := some 54) (v := ?_) (a' := ?_) #[true, true, true, true, true, true, true, true, true, false, false] rfl rfl (any_of HT_.out (by kernel_rfl)) (fun _ _ _ h => h) (Or.inl ⟨by rfl, ?_⟩) ?_ ?_
            rotate_left
            ·intro w'
             go_simp
             with_reducible rfl
            rotate_left
            ·simp only [Act.put, List.setIfInBounds_toArray, List.set_cons_zero, List.set_cons_succ, i64_w, i32_w]
             rfl
            refine pure_ (i := 9) (N := some 12) (v := ?_) (a' := ?_) #[true, true, true, true, true, true, true, true, true, true, false] rfl rfl (any_of HT_.out (by kernel_rfl)) (fun _ _ _ h => h) (Or.inl ⟨by rfl, ?_⟩) ?_ ?_
            rotate_left
            ·intro w'
             go_simp
             with_reducible rfl
            rotate_left
            ·simp only [Act.put, List.setIfInBounds_toArray, List.set_cons_zero, List.set_cons_succ, i64_w, i32_w]
             rfl
            refine pure_ (i := 10) (N := some 13) (v := ?_) (a' := ?_) #[true, true, true, true, true, true, true, true, true, true, true] rfl rfl (any_of HT_.out (by kernel_rfl)) (fun _ _ _ h => h) (Or.inl ⟨by rfl, ?_⟩) ?_ ?_
            rotate_left
            ·intro w'
             go_simp
             with_reducible rfl
            rotate_left
            ·simp only [Act.put, List.setIfInBounds_toArray, List.set_cons_zero, List.set_cons_succ, i64_w, i32_w]
             rfl
            refine done_ (done_of HT_.out (by kernel_rfl)) ?_
            try go_wp2
            have n0_ := Aside0.mk (Kd.R_drew HO_10.out)
            have n1_ := Aside0.mk (blk_drew BK995.out)
            have n2_ := Aside0.mk (below_drew1 HB.out)
            clear HO_10
            clear BK995
            clear HB
            have HO_10 := n0_
            have BK995 := n1_
            have HB := n2_
            clear n0_ n1_ n2_
            have p1006 : 0 ≤ (x11_2 : Int) := of_decide_eq_true (by first | (with_reducible assumption) | assumption)
            have q1006 : x11_2 < (t1000.length : Int) := of_decide_eq_true (by first | (with_reducible assumption) | assumption)
            obtain ⟨ad1006, e1006, hx1006_0⟩ := Kd.at_int (Kd.R_reads' HO_10.out).2.2 x11_2 p1006 q1006
            obtain rfl : ad1003 = ad1006 := (by injection e1006)
            replace p1006 := eq_true p1006
            replace q1006 := eq_true q1006
            refine start_ (n := 9) (S := fun w' => w'.cell? ⟨gb995, 0, none⟩ = some (.int .i64 a0_0) ∧ w'.cell? ⟨gb995, 1, none⟩ = some (.int .u64 a0_1) ∧ w'.cell? ⟨gb995, 2, none⟩ = some (.string a0_2) ∧ w'.cell? ⟨gb995, 3, none⟩ = some (.slice A0_3 l0_3.length c0_3) ∧ w'.cell? (ad1003.add (x11_2).toNat) = some (.int .i64 (rd t1000 x11_2))) (ds := []) #[false, false, false, false, false, false, false, false, false] (by kernel_rfl) rfl rfl ⟨(blk_cell BK995.out 0).trans rfl, (blk_cell BK995.out 1).trans rfl, (blk_cell BK995.out 2).trans rfl, (blk_cell BK995.out 3).trans rfl, hx1006_0⟩ (fun hHeld => ?_); refine with_tabW polyglotlaw16_AmqprimBack.tab12 polyglotlaw16_AmqprimBack.bits12 (fun HT_ HW_ => ?_)
            generalize w31.drew = w32 at HO_10 BK995 HB hx1006_0 hHeld ⊢
            refine pure_ (i := 0) (N := some 55) (v := ?_) (a' := ?_) #[true, false, false, false, false, false, false, false, false] rfl rfl (any_of HT_.out (by kernel_rfl)) (fun _ _ _ h => h) (Or.inl ⟨by rfl, ?_⟩) ?_ ?_
            rotate_left
            ·intro w'
             go_simp
             with_reducible rfl
            rotate_left
            ·simp only [Act.put, List.setIfInBounds_toArray, List.set_cons_zero, List.set_cons_succ, i64_w, i32_w]
             rfl
            refine pure_ (i := 1) (N := some 56) (v := ?_) (a' := ?_) #[true, true, false, false, false, false, false, false, false] rfl rfl (any_of HT_.out (by kernel_rfl)) (fun _ _ _ h => h) (Or.inl ⟨by rfl, ?_⟩) ?_ ?_
            rotate_left
            ·intro w'
             go_simp
             with_reducible rfl
            rotate_left
            ·simp only [Act.put, List.setIfInBounds_toArray, List.set_cons_zero, List.set_cons_succ, i64_w, i32_w]
             rfl
            refine pure_ (i := 2) (N := some 57) (v := ?_) (a' := ?_) #[true, true, true, false, false, false, false, false, false] rfl rfl (any_of HT_.out (by kernel_rfl)) (fun _ _ _ h => h) (Or.inl ⟨by rfl, ?_⟩) ?_ ?_
            rotate_left
            ·intro w'
             go_simp
             with_reducible rfl
            rotate_left
            ·simp only [Act.put, List.setIfInBounds_toArray, List.set_cons_zero, List.set_cons_succ, i64_w, i32_w]
             rfl
            refine pure_ (i := 3) (N := some 58) (v := ?_) (a' := ?_) #[true, true, true, true, false, false, false, false, false] rfl rfl (any_of HT_.out (by kernel_rfl)) (fun _ _ _ h => h) (Or.inl ⟨by rfl, ?_⟩) ?_ ?_
            rotate_left
            ·intro w'
             go_simp
             with_reducible rfl
            rotate_left
            ·simp only [Act.put, List.setIfInBounds_toArray, List.set_cons_zero, List.set_cons_succ, i64_w, i32_w]
             rfl
            refine pure_ (i := 4) (N := some 59) (v := ?_) (a' := ?_) #[true, true, true, true, true, false, false, false, false] rfl rfl (any_of HT_.out (by kernel_rfl)) (fun _ _ _ h => h) (Or.inl ⟨by rfl, ?_⟩) ?_ ?_
            rotate_left
            ·intro w'
             go_simp
             with_reducible rfl
            rotate_left
            ·simp only [Act.put, List.setIfInBounds_toArray, List.set_cons_zero, List.set_cons_succ, i64_w, i32_w]
             rfl
            refine take_ (i := 5) (N := some 60) (v := ?_) (a' := ?_) #[true, true, true, true, true, true, false, false, false] rfl rfl (take_ofW HT_.out HW_.out (by kernel_rfl)) (fun _ _ _ h => h) (Or.inl ⟨by rfl, ?_⟩) hHeld ?_ ?_
            rotate_left
            ·rintro w' ⟨s0, s1, s2, s3, s4⟩
             go_simp
             with_reducible rfl
            rotate_left
            ·simp only [Act.put, List.setIfInBounds_toArray, List.set_cons_zero, List.set_cons_succ, i64_w, i32_w]
             rfl
            refine take_ (i := 6) (N := some 61) (v := ?_) (a' := ?_) #[true, true, true, true, true, true, true, false, false] rfl rfl (take_ofW HT_.out HW_.out (by kernel_rfl)) (fun _ _ _ h => h) (Or.inl ⟨by rfl, ?_⟩) hHeld ?_ ?_
            rotate_left
            ·rintro w' ⟨s0, s1, s2, s3, s4⟩
             go_simp
             with_reducible rfl
            rotate_left
            ·simp only [Act.put, List.setIfInBounds_toArray, List.set_cons_zero, List.set_cons_succ, i64_w, i32_w]
             rfl
            refine one_ (i := 7) (N := some 62) #[true, true, true, true, true, true, true, true, false] rfl rfl (one_of HT_.out (by kernel_rfl)) (by decide) (fun K hK => ?_)
            refine goes_ Tryd.func24 (by kernel_rfl) rfl #[.int .i64 (rd t1000 x11_2), .agg #[.int .i64 a0_0, .int .u64 a0_1, .string a0_2, .slice A0_3 l0_3.length c0_3]] (by rfl) rfl rfl (by (try simp only [List.map_toArray, List.map_cons, List.map_nil]); first | done | rfl | (simp only [List.length_drop, List.length_take]; rfl)) ?_
            with_reducible refine (amqprim_Fits.calls (rd t1000 x11_2) a0_0 a0_1 a0_2 _ _ l0_3 t1007 _ ?side1 ?side2 ?side3 A25.out).mono ?_
            (case side1 => exact HT.out.below (by repeat (first | (with_reducible first | exact HB.out | apply below_alloc | apply pw_below_drewN | apply below_drew1 | refine below_set ?_ GE995.out) | exact HB.out)))
            (case side2 => repeat (first | exact (Kd.C_below HR0_3.out HB.out) | (with_reducible refine Kd.C_alloc ?_ _) | (with_reducible refine Kd.C_drewN ?_ _) | (with_reducible refine Kd.C_drew ?_)))
            (case side3 => exact HC0_3.out)
            rintro e w33 ⟨rfl, hb⟩
            have HS4_ := (hb.cell (World.block_lt_of_cell? _ _ (hHeld.2.2.2.2))).trans (hHeld.2.2.2.2)
            refine ⟨_, rfl, ?_⟩
            have n0_ := Aside0.mk (Kd.R_below (by (with_reducible repeat (first | apply Kd.R_alloc | apply Kd.R_drewN | apply Kd.R_drew)); exact HO_10.out) hb)
            have n1_ := Aside0.mk (blk_below (g := gb995) (o := .cells #[.int .i64 a0_0, .int .u64 a0_1, .string a0_2, .slice A0_3 l0_3.length c0_3] 25 (0, 0)) (by (with_reducible repeat (first | refine blk_drewN ?_ _ | refine blk_drew ?_ | refine blk_alloc ?_ _)); exact BK995.out) hb)
            have n2_ := Aside0.mk (below_step (by repeat (first | (with_reducible first | exact HB.out | apply below_alloc | apply pw_below_drewN | apply below_drew1 | refine below_set ?_ GE995.out) | exact HB.out)) hb)
            clear HO_10
            clear BK995
            clear HB
            have HO_10 := n0_
            have BK995 := n1_
            have HB := n2_
            clear n0_ n1_ n2_
            (try clear hb)
            (try clear hb2)
            (try clear hk)
            (try clear hi)
            refine hK.out _ _ ⟨(blk_cell BK995.out 0).trans rfl, (blk_cell BK995.out 1).trans rfl, (blk_cell BK995.out 2).trans rfl, (blk_cell BK995.out 3).trans rfl, HS4_⟩ (fun hHeld => ?_)
            clear hK K
            refine norm_ (a' := ?_) ?_ ?_
            rotate_left
            ·show Act.put _ (some 62) _ = _
             simp only [Act.put, List.setIfInBounds_toArray, List.set_cons_zero, List.set_cons_succ, i64_w, i32_w]
             rfl
            refine pure_ (i := 8) (N := some 63) (v := ?_) (a' := ?_) #[true, true, true, true, true, true, true, true, true] rfl rfl (any_of HT_.out (by kernel_rfl)) (fun _ _ _ h => h) (Or.inl ⟨by rfl, ?_⟩) ?_ ?_
            rotate_left
            ·intro w'
             go_simp
             with_reducible rfl
            rotate_left
            ·simp only [Act.put, List.setIfInBounds_toArray, List.set_cons_zero, List.set_cons_succ, i64_w, i32_w]
             rfl
            refine done_ (done_of HT_.out (by kernel_rfl)) ?_
            go_upto_region 15 with (fail)
            go_cut [89] (fun v89 wc => ∃ (kq : Nat) (x89_27 : Bool), v89 = .bool x89_27 ∧ Aside0 (polyglotlaw16_AmqprimBack.j2 kq a1 a2 t998 t999 x9_2 t1000 x11_2 t1004 x89_27 a0_0 a0_1 a0_2 l0_3 = some r) ∧ Aside0 (kq ≤ k2) ∧ Aside0 (Kd.R (Kd.int .i64) 3 wc w.heap.size (fun _ => True) (.slice (some ad1003) t1000.length co29) t1000) ∧ Aside0 (wc.heap[gb995]? = some (.cells #[.int .i64 a0_0, .int .u64 a0_1, .string a0_2, (.slice A0_3 l0_3.length c0_3)] 25 (0, 0))) ∧ Aside0 (Below w.heap.size w wc))
            case first =>
             have H := HC28.out
             clear HC28
             by_cases c34 : t999 = 0
             ·rw [if_pos c34] at H
              have c34b0 : (t999 == 0) = true := beq_iff_eq.mpr c34
              have c34b1 : (t999 != 0) = false := bne_eq_false_iff_eq.mpr c34
              clear c34
              (first | rw [c34b0] | (simp only [i64_w, i32_w]; rw [c34b0]) | skip)
              by_cases c35 : x9_2 < 0
              ·rw [if_pos c35] at H
               have c35b0 : decide (x9_2 < 0) = true := decide_eq_true c35
               clear c35
               by_cases c36 : (rd t1000 x11_2) = t998
               ·rw [if_pos c36] at H
                have c36b0 : ((rd t1000 x11_2) == t998) = true := beq_iff_eq.mpr c36
                have c36b1 : ((rd t1000 x11_2) != t998) = false := bne_eq_false_iff_eq.mpr c36
                clear c36
                by_cases c37 : x9_2 ≥ 0
                ·rw [if_pos c37] at H
                 have c37b0 : decide (0 ≤ x9_2) = true := decide_eq_true c37
                 clear c37
                 have H' := Aside0.mk H
                 clear H
                 have p1008 : 0 ≤ (x11_2 : Int) := of_decide_eq_true (by first | (with_reducible assumption) | assumption)
                 have q1008 : x11_2 < (t1000.length : Int) := of_decide_eq_true (by first | (with_reducible assumption) | assumption)
                 obtain ⟨ad1008, e1008, hx1008_0⟩ := Kd.at_int (Kd.R_reads' HO_10.out).2.2 x11_2 p1008 q1008
                 obtain rfl : ad1003 = ad1008 := (by injection e1008)
                 replace p1008 := eq_true p1008
                 replace q1008 := eq_true q1008
                 go_wp2
                 go_meet
                 case rel => exact ⟨_, (decide ((t1004.size : Int) < x9_2)), (by first | rfl | (simp; done) | (simp [*]; done)), H', ⟨by have := HJ5.out; have := HK2.out; first | omega | exact Nat.le_refl _⟩, ⟨by (with_reducible repeat (first | apply Kd.R_alloc | apply Kd.R_drewN | apply Kd.R_drew)); exact HO_10.out⟩, ⟨by (with_reducible repeat (first | refine blk_drewN ?_ _ | refine blk_drew ?_ | refine blk_alloc ?_ _)); exact BK995.out⟩, ⟨by repeat (first | (with_reducible first | exact HB.out | apply below_alloc | apply pw_below_drewN | apply below_drew1 | refine below_set ?_ GE995.out) | exact HB.out)⟩⟩
                ·rw [if_neg c37] at H
                 have c37b0 : decide (0 ≤ x9_2) = false := decide_eq_false c37
                 clear c37
                 have H' := Aside0.mk H
                 clear H
                 have p1008 : 0 ≤ (x11_2 : Int) := of_decide_eq_true (by first | (with_reducible assumption) | assumption)
                 have q1008 : x11_2 < (t1000.length : Int) := of_decide_eq_true (by first | (with_reducible assumption) | assumption)
                 obtain ⟨ad1008, e1008, hx1008_0⟩ := Kd.at_int (Kd.R_reads' HO_10.out).2.2 x11_2 p1008 q1008
                 obtain rfl : ad1003 = ad1008 := (by injection e1008)
                 replace p1008 := eq_true p1008
                 replace q1008 := eq_true q1008
                 go_wp2
                 go_meet
                 case rel => exact ⟨_, (false), (by first | rfl | (simp; done) | (simp [*]; done)), H', ⟨by have := HJ5.out; have := HK2.out; first | omega | exact Nat.le_refl _⟩, ⟨by (with_reducible repeat (first | apply Kd.R_alloc | apply Kd.R_drewN | apply Kd.R_drew)); exact HO_10.out⟩, ⟨by (with_reducible repeat (first | refine blk_drewN ?_ _ | refine blk_drew ?_ | refine blk_alloc ?_ _)); exact BK995.out⟩, ⟨by repeat (first | (with_reducible first | exact HB.out | apply below_alloc | apply pw_below_drewN | apply below_drew1 | refine below_set ?_ GE995.out) | exact HB.out)⟩⟩
               ·rw [if_neg c36] at H
                have c36b0 : ((rd t1000 x11_2) == t998) = false := beq_eq_false_iff_ne.mpr c36
                have c36b1 : ((rd t1000 x11_2) != t998) = true := bne_iff_ne.mpr c36
                have H' := Aside0.mk H
                clear H
                have p1008 : 0 ≤ (x11_2 : Int) := of_decide_eq_true (by first | (with_reducible assumption) | assumption)
                have q1008 : x11_2 < (t1000.length : Int) := of_decide_eq_true (by first | (with_reducible assumption) | assumption)
                obtain ⟨ad1008, e1008, hx1008_0⟩ := Kd.at_int (Kd.R_reads' HO_10.out).2.2 x11_2 p1008 q1008
                obtain rfl : ad1003 = ad1008 := (by injection e1008)
                replace p1008 := eq_true p1008
                replace q1008 := eq_true q1008
                go_wp2
                go_meet
                case rel => exact ⟨_, (true), (by first | rfl | (simp; done) | (simp [*]; done)), H', ⟨by have := HJ5.out; have := HK2.out; first | omega | exact Nat.le_refl _⟩, ⟨by (with_reducible repeat (first | apply Kd.R_alloc | apply Kd.R_drewN | apply Kd.R_drew)); exact HO_10.out⟩, ⟨by (with_reducible repeat (first | refine blk_drewN ?_ _ | refine blk_drew ?_ | refine blk_alloc ?_ _)); exact BK995.out⟩, ⟨by repeat (first | (with_reducible first | exact HB.out | apply below_alloc | apply pw_below_drewN | apply below_drew1 | refine below_set ?_ GE995.out) | exact HB.out)⟩⟩
              ·rw [if_neg c35] at H
               have c35b0 : decide (x9_2 < 0) = false := decide_eq_false c35
               clear c35
               by_cases c38 : x9_2 ≥ 0
               ·rw [if_pos c38] at H
                have c38b0 : decide (0 ≤ x9_2) = true := decide_eq_true c38
                clear c38
                have H' := Aside0.mk H
                clear H
                go_wp2
                go_meet
                case rel => exact ⟨_, (decide ((t1004.size : Int) < x9_2)), (by first | rfl | (simp; done) | (simp [*]; done)), H', ⟨by have := HJ5.out; have := HK2.out; first | omega | exact Nat.le_refl _⟩, ⟨by (with_reducible repeat (first | apply Kd.R_alloc | apply Kd.R_drewN | apply Kd.R_drew)); exact HO_10.out⟩, ⟨by (with_reducible repeat (first | refine blk_drewN ?_ _ | refine blk_drew ?_ | refine blk_alloc ?_ _)); exact BK995.out⟩, ⟨by repeat (first | (with_reducible first | exact HB.out | apply below_alloc | apply pw_below_drewN | apply below_drew1 | refine below_set ?_ GE995.out) | exact HB.out)⟩⟩
               ·rw [if_neg c38] at H
                have c38b0 : decide (0 ≤ x9_2) = false := decide_eq_false c38
                clear c38
                have H' := Aside0.mk H
                clear H
                go_wp2
                go_meet
                case rel => exact ⟨_, (false), (by first | rfl | (simp; done) | (simp [*]; done)), H', ⟨by have := HJ5.out; have := HK2.out; first | omega | exact Nat.le_refl _⟩, ⟨by (with_reducible repeat (first | apply Kd.R_alloc | apply Kd.R_drewN | apply Kd.R_drew)); exact HO_10.out⟩, ⟨by (with_reducible repeat (first | refine blk_drewN ?_ _ | refine blk_drew ?_ | refine blk_alloc ?_ _)); exact BK995.out⟩, ⟨by repeat (first | (with_reducible first | exact HB.out | apply below_alloc | apply pw_below_drewN | apply below_drew1 | refine below_set ?_ GE995.out) | exact HB.out)⟩⟩
             ·rw [if_neg c34] at H
              have c34b0 : (t999 == 0) = false := beq_eq_false_iff_ne.mpr c34
              have c34b1 : (t999 != 0) = true := bne_iff_ne.mpr c34
              (first | rw [c34b0] | (simp only [i64_w, i32_w]; rw [c34b0]) | skip)
              have H' := Aside0.mk H
              clear H
              go_wp2
              go_meet
              case rel => exact ⟨_, (true), (by first | rfl | (simp; done) | (simp [*]; done)), H', ⟨by have := HJ5.out; have := HK2.out; first | omega | exact Nat.le_refl _⟩, ⟨by (with_reducible repeat (first | apply Kd.R_alloc | apply Kd.R_drewN | apply Kd.R_drew)); exact HO_10.out⟩, ⟨by (with_reducible repeat (first | refine blk_drewN ?_ _ | refine blk_drew ?_ | refine blk_alloc ?_ _)); exact BK995.out⟩, ⟨by repeat (first | (with_reducible first | exact HB.out | apply below_alloc | apply pw_below_drewN | apply below_drew1 | refine below_set ?_ GE995.out) | exact HB.out)⟩⟩
            case rest =>
             clear HC28
             try clear c1
             try clear p1
             try clear q1
             try clear hx1
             try clear c2
             try clear p2
             try clear c3
             try clear c4
             try clear c5
             try clear p6
             try clear c8
             try clear c10
             try clear p10
             try clear q10
             try clear hx10
             try clear c15
             try clear c18
             try clear c19
             try clear c20
             try clear c22
             try clear c22b0
             try clear c23
             try clear c23b0
             try clear c24
             try clear c25
             try clear c26
             try clear c26b0
             try clear c26b1
             try clear c26b2
             try clear c27
             try clear c27b0
             try clear c27b1
             try clear c34
             try clear c34b0
             try clear c34b1
             try clear c35
             try clear c35b0
             try clear c36
             try clear c36b0
             try clear c36b1
             try clear c37
             try clear c37b0
             try clear c38
             try clear c38b0
             try clear hcz11_0
             try clear hcz11_1
             try clear hcz11_2
             try clear hcz11_3
             try clear hcz13_0
             try clear hcz13_1
             try clear hcz13_2
             try clear hcz13_3
             try clear hcz18_0
             try clear hcz18_1
             try clear hcz18_2
             try clear hcz18_3
             try clear hcz20_0
             try clear hcz20_1
             try clear hcz20_2
             try clear hcz20_3
             try clear hfz11_0
             try clear hfz11_1
             try clear hfz11_2
             try clear hfz11_3
             try clear hfz13_0
             try clear hfz13_1
             try clear hfz13_2
             try clear hfz13_3
             try clear hfz18_0
             try clear hfz18_1
             try clear hfz18_2
             try clear hfz18_3
             try clear hfz20_0
             try clear hfz20_1
             try clear hfz20_2
             try clear hfz20_3
             try clear hx1003_0
             try clear hx1006_0
             try clear hx1008_0
             try clear p1003
             try clear p1006
             try clear p1008
             try clear p2
             try clear q1003
             try clear q1006
             try clear q1008
             obtain ⟨kq, x89_27, rfl, HA, HJ27, HO_10, BK995, HB⟩ := hcut
             cases kq with
             | zero => exact absurd HA.out (by simp [polyglotlaw16_AmqprimBack.j2])
             | succ kj27 =>
              have H := HA.out
              clear HA
              simp only [polyglotlaw16_AmqprimBack.j2] at H
              by_cases c39 : x89_27 = true
              ·subst c39
               have H1 : (none) = some r := by rw [if_pos rfl] at H; exact H
               clear H
               have H := H1
               clear H1
               exact absurd H (by simp)
              ·replace c39 := Bool.eq_false_iff.mpr c39
               subst c39
               have H1 : (if x9_2 < 0 then (polyglotlaw16_AmqprimBack.j3 kj27 a1 a2 t998 t999 (t1004.size : Int) t1000 x11_2 t1004 a0_0 a0_1 a0_2 l0_3) else (polyglotlaw16_AmqprimBack.j3 kj27 a1 a2 t998 t999 x9_2 t1000 x11_2 t1004 a0_0 a0_1 a0_2 l0_3)) = some r := by rw [if_neg (show ¬ (false = true) by decide)] at H; exact H
               clear H
               have H := H1
               clear H1
               have HC40 := Aside0.mk H
               clear H
               go_upto_if 91 with (fail)
               go_cut [9] (fun v9 wc => ∃ (kq : Nat) (x9_39 : Int), v9 = .int .i64 x9_39 ∧ Aside0 (polyglotlaw16_AmqprimBack.j3 kq a1 a2 t998 t999 x9_39 t1000 x11_2 t1004 a0_0 a0_1 a0_2 l0_3 = some r) ∧ Aside0 (kq ≤ kj27) ∧ Aside0 (Kd.R (Kd.int .i64) 3 wc w.heap.size (fun _ => True) (.slice (some ad1003) t1000.length co29) t1000) ∧ Aside0 (wc.heap[gb995]? = some (.cells #[.int .i64 a0_0, .int .u64 a0_1, .string a0_2, (.slice A0_3 l0_3.length c0_3)] 25 (0, 0))) ∧ Aside0 (Below w.heap.size w wc))
               case first =>
                have H := HC40.out
                clear HC40
                by_cases c41 : x9_2 < 0
                ·rw [if_pos c41] at H
                 have c41b0 : decide (x9_2 < 0) = true := decide_eq_true c41
                 clear c41
                 (first | rw [c41b0] | (simp only [i64_w, i32_w]; rw [c41b0]) | skip)
                 have H' := Aside0.mk H
                 clear H
                 go_wp2
                 go_meet
                 case rel => exact ⟨_, ((t1004.size : Int)), (by first | rfl | (simp; done) | (simp [*]; done)), H', ⟨by have := HJ5.out; have := HK2.out; have := HJ27.out; first | omega | exact Nat.le_refl _⟩, ⟨by (with_reducible repeat (first | apply Kd.R_alloc | apply Kd.R_drewN | apply Kd.R_drew)); exact HO_10.out⟩, ⟨by (with_reducible repeat (first | refine blk_drewN ?_ _ | refine blk_drew ?_ | refine blk_alloc ?_ _)); exact BK995.out⟩, ⟨by repeat (first | (with_reducible first | exact HB.out | apply below_alloc | apply pw_below_drewN | apply below_drew1 | refine below_set ?_ GE995.out) | exact HB.out)⟩⟩
                ·rw [if_neg c41] at H
                 have c41b0 : decide (x9_2 < 0) = false := decide_eq_false c41
                 clear c41
                 (first | rw [c41b0] | (simp only [i64_w, i32_w]; rw [c41b0]) | skip)
                 have H' := Aside0.mk H
                 clear H
                 go_wp2
                 go_meet
                 case rel => exact ⟨_, (x9_2), (by first | rfl | (simp; done) | (simp [*]; done)), H', ⟨by have := HJ5.out; have := HK2.out; have := HJ27.out; first | omega | exact Nat.le_refl _⟩, ⟨by (with_reducible repeat (first | apply Kd.R_alloc | apply Kd.R_drewN | apply Kd.R_drew)); exact HO_10.out⟩, ⟨by (with_reducible repeat (first | refine blk_drewN ?_ _ | refine blk_drew ?_ | refine blk_alloc ?_ _)); exact BK995.out⟩, ⟨by repeat (first | (with_reducible first | exact HB.out | apply below_alloc | apply pw_below_drewN | apply below_drew1 | refine below_set ?_ GE995.out) | exact HB.out)⟩⟩
               case rest =>
                clear HC40
                try clear c1
                try clear p1
                try clear q1
                try clear hx1
                try clear c2
                try clear p2
                try clear c3
                try clear c4
                try clear c5
                try clear p6
                try clear c8
                try clear c10
                try clear p10
                try clear q10
                try clear hx10
                try clear c15
                try clear c18
                try clear c19
                try clear c20
                try clear c22
                try clear c22b0
                try clear c23
                try clear c23b0
                try clear c24
                try clear c25
                try clear c26
                try clear c26b0
                try clear c26b1
                try clear c26b2
                try clear c27
                try clear c27b0
                try clear c27b1
                try clear c34
                try clear c34b0
                try clear c34b1
                try clear c35
                try clear c35b0
                try clear c36
                try clear c36b0
                try clear c36b1
                try clear c37
                try clear c37b0
                try clear c38
                try clear c38b0
                try clear c39
                try clear c41
                try clear c41b0
                try clear hcz11_0
                try clear hcz11_1
                try clear hcz11_2
                try clear hcz11_3
                try clear hcz13_0
                try clear hcz13_1
                try clear hcz13_2
                try clear hcz13_3
                try clear hcz18_0
                try clear hcz18_1
                try clear hcz18_2
                try clear hcz18_3
                try clear hcz20_0
                try clear hcz20_1
                try clear hcz20_2
                try clear hcz20_3
                try clear hfz11_0
                try clear hfz11_1
                try clear hfz11_2
                try clear hfz11_3
                try clear hfz13_0
                try clear hfz13_1
                try clear hfz13_2
                try clear hfz13_3
                try clear hfz18_0
                try clear hfz18_1
                try clear hfz18_2
                try clear hfz18_3
                try clear hfz20_0
                try clear hfz20_1
                try clear hfz20_2
                try clear hfz20_3
                try clear hx1003_0
                try clear hx1006_0
                try clear hx1008_0
                try clear p1
                try clear p10
                try clear p1003
                try clear p1006
                try clear p1008
                try clear p2
                try clear p6
                try clear q1
                try clear q10
                try clear q1003
                try clear q1006
                try clear q1008
                obtain ⟨kq, x9_39, rfl, HA, HJ39, HO_10, BK995, HB⟩ := hcut
                cases kq with
                | zero => exact absurd HA.out (by simp [polyglotlaw16_AmqprimBack.j3])
                | succ kj39 =>
                 have H := HA.out
                 clear HA
                 simp only [polyglotlaw16_AmqprimBack.j3] at H
                 by_cases c42 : 0 ≤ x11_2
                 ·rw [if_pos c42] at H
                  have c42b0 : decide (0 ≤ x11_2) = true := decide_eq_true c42
                  clear c42
                  by_cases c43 : x11_2 < (t1000.length : Int)
                  ·rw [if_pos c43] at H
                   have c43b0 : decide (x11_2 < (t1000.length : Int)) = true := decide_eq_true c43
                   clear c43
                   by_cases c44 : t1004.size + a1.size ≤ 9223372036854775807
                   ·rw [if_pos c44] at H
                    have c44b0 := eq_true c44
                    have c44b1 : decide (t1004.size + a1.size ≤ 9223372036854775807) = true := decide_eq_true c44
                    try have c44b2 : (9223372036854775807 < t1004.size + a1.size) = False := eq_false (Nat.not_lt.2 c44)
                    replace H := Option.bind_eq_some_iff.mp H
                    obtain ⟨⟨t1010, t1011, t1012, t1013, t1016, t1017⟩, A450, H⟩ := H
                    replace H : (if t1017 = 0 then (if t1016 = (t1004.size : Int) then ((polyglotkit_SameValue.f kj39 t1010 t1011 t1012 t1013 a0_0 a0_1 a0_2 l0_3).bind fun t1019 => (if t1019 = true then (polyglotlaw16_AmqprimBack.l0 kj39 a1 a2 t998 t999 x9_39 t1000 (wrap64 (x11_2 + 1)) a0_0 a0_1 a0_2 l0_3) else (none))) else (none)) else (none)) = some r := H
                    have A45 := Aside0.mk A450
                    clear A450
                    by_cases c46 : t1017 = 0
                    ·rw [if_pos c46] at H
                     have c46b0 : (t1017 == 0) = true := beq_iff_eq.mpr c46
                     have c46b1 : (t1017 != 0) = false := bne_eq_false_iff_eq.mpr c46
                     clear c46
                     by_cases c47 : t1016 = (t1004.size : Int)
                     ·rw [if_pos c47] at H
                      have c47b0 : (t1016 == (t1004.size : Int)) = true := beq_iff_eq.mpr c47
                      have c47b1 : (t1016 != (t1004.size : Int)) = false := bne_eq_false_iff_eq.mpr c47
                      clear c47
                      replace H := Option.bind_eq_some_iff.mp H
                      obtain ⟨t1019, A480, H⟩ := H
                      replace H : (if t1019 = true then (polyglotlaw16_AmqprimBack.l0 kj39 a1 a2 t998 t999 x9_39 t1000 (wrap64 (x11_2 + 1)) a0_0 a0_1 a0_2 l0_3) else (none)) = some r := H
                      have A48 := Aside0.mk A480
                      clear A480
                      by_cases c49 : t1019 = true
                      ·subst c49
                       have H1 : (polyglotlaw16_AmqprimBack.l0 kj39 a1 a2 t998 t999 x9_39 t1000 (wrap64 (x11_2 + 1)) a0_0 a0_1 a0_2 l0_3) = some r := by rw [if_pos rfl] at H; exact H
                       clear H
                       have H := H1
                       clear H1
                       have H' := Aside0.mk H
                       clear H
                       have p1009 : 0 ≤ (x11_2 : Int) := of_decide_eq_true (by first | (with_reducible assumption) | assumption)
                       have q1009 : x11_2 < (t1000.length : Int) := of_decide_eq_true (by first | (with_reducible assumption) | assumption)
                       obtain ⟨ad1009, e1009, hx1009_0⟩ := Kd.at_int (Kd.R_reads' HO_10.out).2.2 x11_2 p1009 q1009
                       obtain rfl : ad1003 = ad1009 := (by injection e1009)
                       replace p1009 := eq_true p1009
                       replace q1009 := eq_true q1009
                       go_wp2_with (first | ((with_reducible refine gate_callee (f := 37) rfl ?_); refine goesL_ (some 102) rfl rfl Tryd.func37 (by kernel_rfl) rfl #[.int .i64 (rd t1000 x11_2), .string (t1004 ++ a1)] rfl (by (try simp only [List.map_toArray, List.map_cons, List.map_nil]); first | done | rfl | (simp only [List.length_drop, List.length_take]; rfl)) ?_; (with_reducible refine (amqprim_Get.calls kj39 (rd t1000 x11_2) (t1004 ++ a1) t1010 t1011 t1012 t1013 t1016 t1017 _ ?side1 A45.out).mono ?_); (case side1 => exact HT.out.below (by repeat (first | (with_reducible first | exact HB.out | apply below_alloc | apply pw_below_drewN | apply below_drew1 | refine below_set ?_ GE995.out) | exact HB.out))); rintro e w50 ⟨v1014, rfl, ho0, hb⟩; refine ⟨_, rfl, ?_⟩; have n0_ := Aside0.mk (Kd.R_below (by (with_reducible repeat (first | apply Kd.R_alloc | apply Kd.R_drewN | apply Kd.R_drew)); exact HO_10.out) hb); have n1_ := Aside0.mk (Kd.R_lower (Kd.R_newB ho0 (g := gb995) (o := .cells #[.int .i64 a0_0, .int .u64 a0_1, .string a0_2, .slice A0_3 l0_3.length c0_3] 25 (0, 0)) (by (with_reducible repeat (first | refine blk_drewN ?_ _ | refine blk_drew ?_ | refine blk_alloc ?_ _)); exact BK995.out)) (below_size (by repeat (first | (with_reducible first | exact HB.out | apply below_alloc | apply pw_below_drewN | apply below_drew1 | refine below_set ?_ GE995.out) | exact HB.out)))); have n2_ := Aside0.mk (blk_below (g := gb995) (o := .cells #[.int .i64 a0_0, .int .u64 a0_1, .string a0_2, .slice A0_3 l0_3.length c0_3] 25 (0, 0)) (by (with_reducible repeat (first | refine blk_drewN ?_ _ | refine blk_drew ?_ | refine blk_alloc ?_ _)); exact BK995.out) hb); have n3_ := Aside0.mk (below_step (by repeat (first | (with_reducible first | exact HB.out | apply below_alloc | apply pw_below_drewN | apply below_drew1 | refine below_set ?_ GE995.out) | exact HB.out)) hb); clear HO_10; clear BK995; clear HB; have HO_10 := n0_; have HO1015 := n1_; have BK995 := n2_; have HB := n3_; clear n0_ n1_ n2_ n3_; (try clear hb); (try clear hb2); (try clear hk); (try clear hi); (try clear ho0)) | ((with_reducible refine gate_dst (N := 14) rfl ?_); (try (refine gate_guard (by rfl) ?_; dsimp only)); refine box_event ?hg (N := 14) ?hd (cs := #[.int .i64 0, .int .u64 0, .string (⟨#[]⟩ : ByteArray), .slice none 0 0]) (t := 25) ?hr ?_; (case hd => rfl); (case hg => rfl); (case hr => first | (go_simp; done) | (go_simp; rfl)); intro gb1018 hg w51 hbox hb; have n0_ := Aside0.mk (Kd.R_below (by (with_reducible repeat (first | apply Kd.R_alloc | apply Kd.R_drewN | apply Kd.R_drew)); exact HO_10.out) hb); have n1_ := Aside0.mk (Kd.R_below (Kd.R_elderB (by (with_reducible repeat (first | apply Kd.R_alloc | apply Kd.R_drewN | apply Kd.R_drew)); exact HO1015.out) gb1018 (Nat.le_of_eq hg.symm)) hb); have n2_ := Aside0.mk (blk_below (g := gb995) (o := .cells #[.int .i64 a0_0, .int .u64 a0_1, .string a0_2, .slice A0_3 l0_3.length c0_3] 25 (0, 0)) (by (with_reducible repeat (first | refine blk_drewN ?_ _ | refine blk_drew ?_ | refine blk_alloc ?_ _)); exact BK995.out) hb); have n3_ := Aside0.mk (below_step (by repeat (first | (with_reducible first | exact HB.out | apply below_alloc | apply pw_below_drewN | apply below_drew1 | refine below_set ?_ GE995.out) | exact HB.out)) hb); have n4_ := Aside0.mk (hbox); have n5_ := Aside0.mk ((by rw [hg]; exact (below_size (by repeat (first | (with_reducible first | exact HB.out | apply below_alloc | apply pw_below_drewN | apply below_drew1 | refine below_set ?_ GE995.out) | exact HB.out))) : w.heap.size ≤ gb1018)); have n6_ := Aside0.mk ((by rw [hg]; exact (below_size (by repeat (first | (with_reducible first | exact HB.out | apply below_alloc | apply pw_below_drewN | apply below_drew1 | refine below_set ?_ GE995.out) | exact HB.out))) : w.heap.size ≤ gb1018)); have n7_ := Aside0.mk ((by rw [hg]; exact Nat.ne_of_lt (blk_lt (g := gb995) (o := .cells #[.int .i64 a0_0, .int .u64 a0_1, .string a0_2, .slice A0_3 l0_3.length c0_3] 25 (0, 0)) (by (with_reducible repeat (first | refine blk_drewN ?_ _ | refine blk_drew ?_ | refine blk_alloc ?_ _)); exact BK995.out)) : gb995 ≠ gb1018)); have n8_ := Aside0.mk ((by rw [hg]; exact Nat.ne_of_gt (blk_lt (g := gb995) (o := .cells #[.int .i64 a0_0, .int .u64 a0_1, .string a0_2, .slice A0_3 l0_3.length c0_3] 25 (0, 0)) (by (with_reducible repeat (first | refine blk_drewN ?_ _ | refine blk_drew ?_ | refine blk_alloc ?_ _)); exact BK995.out)) : gb1018 ≠ gb995)); clear HO_10; clear HO1015; clear BK995; clear HB; have HO_10 := n0_; have HO1015 := n1_; have BK995 := n2_; have HB := n3_; have BK1018 := n4_; have GW1018 := n5_; have GE1018 := n6_; have NB995_1018 := n7_; have NB1018_995 := n8_; clear n0_ n1_ n2_ n3_ n4_ n5_ n6_ n7_ n8_; clear hb hbox hg; have hnb52 := NB1018_995.out; have hnc52 := NB995_1018.out; have hcz53_0 : w51.cell? ⟨gb1018, 0, none⟩ = some (.int .i64 0) := (blk_cell BK1018.out 0).trans rfl; have hcz53_1 : w51.cell? ⟨gb1018, 1, none⟩ = some (.int .u64 0) := (blk_cell BK1018.out 1).trans rfl; have hcz53_2 : w51.cell? ⟨gb1018, 2, none⟩ = some (.string (⟨#[]⟩ : ByteArray)) := (blk_cell BK1018.out 2).trans rfl; have hcz53_3 : w51.cell? ⟨gb1018, 3, none⟩ = some (.slice none 0 0) := (blk_cell BK1018.out 3).trans rfl; have hfz53_0 := blk_frozen BK1018.out 0; have hfz53_1 := blk_frozen BK1018.out 1; have hfz53_2 := blk_frozen BK1018.out 2; have hfz53_3 := blk_frozen BK1018.out 3; obtain ⟨Ao54, co54, eo54⟩ := Kd.R_slice HO1015.out; subst eo54; have hcz55_0 : w51.cell? ⟨gb995, 0, none⟩ = some (.int .i64 a0_0) := (blk_cell BK995.out 0).trans rfl; have hcz55_1 : w51.cell? ⟨gb995, 1, none⟩ = some (.int .u64 a0_1) := (blk_cell BK995.out 1).trans rfl; have hcz55_2 : w51.cell? ⟨gb995, 2, none⟩ = some (.string a0_2) := (blk_cell BK995.out 2).trans rfl; have hcz55_3 : w51.cell? ⟨gb995, 3, none⟩ = some (.slice A0_3 l0_3.length c0_3) := (blk_cell BK995.out 3).trans rfl; have hfz55_0 := blk_frozen BK995.out 0; have hfz55_1 := blk_frozen BK995.out 1; have hfz55_2 := blk_frozen BK995.out 2; have hfz55_3 := blk_frozen BK995.out 3) | (go_at_call 26; (with_reducible refine (polyglotkit_SameValue.calls kj39 t1010 t1011 t1012 _ _ t1013 a0_0 a0_1 a0_2 _ _ l0_3 true _ ?side1 ?side2 ?side3 ?side4 A48.out).mono ?_); (case side1 => refine (Kd.R_reads' (e := 25) (base := w.heap.size) (ok := fun k_ => ((True ∧ k_ ≠ gb995) ∧ k_ ≠ gb1018)) (n := t1013.length) (c := co54) ?_).2.2; exact (by (with_reducible repeat (first | apply Kd.R_alloc | apply Kd.R_drewN | apply Kd.R_drew)); exact (Kd.R_mono (Kd.R_far (p := ⟨gb1018, 3, none⟩) (Kd.R_far (p := ⟨gb1018, 2, none⟩) (Kd.R_far (p := ⟨gb1018, 1, none⟩) (Kd.R_far (p := ⟨gb1018, 0, none⟩) (Kd.R_mono HO1015.out (fun k_ hk => (⟨hk, hk.2⟩ : _ ∧ k_ ≠ gb1018))) (fun _ hk => hk.2) (.int .i64 t1010)) (fun _ hk => hk.2) (.int .u64 t1011)) (fun _ hk => hk.2) (.string t1012)) (fun _ hk => hk.2) (.slice Ao54 t1013.length co54)) (fun _ h_ => h_.1)))); (case side2 => exact (Kd.R_reads' HO1015.out).2.1); (case side3 => exact Kd.C_below HR0_3.out (by repeat (first | (with_reducible first | exact HB.out | apply below_alloc | apply pw_below_drewN | apply below_drew1 | refine below_set ?_ GE995.out | refine below_set ?_ GE1018.out) | exact HB.out))); (case side4 => exact HC0_3.out); rintro e w56 ⟨rfl, hb⟩; have n0_ := Aside0.mk (Kd.R_below (by (with_reducible repeat (first | apply Kd.R_alloc | apply Kd.R_drewN | apply Kd.R_drew)); exact (Kd.R_mono (Kd.R_far (p := ⟨gb1018, 3, none⟩) (Kd.R_far (p := ⟨gb1018, 2, none⟩) (Kd.R_far (p := ⟨gb1018, 1, none⟩) (Kd.R_far (p := ⟨gb1018, 0, none⟩) (Kd.R_types HO_10.out BK1018.out (by decide)) (fun _ hk => hk.2) (.int .i64 t1010)) (fun _ hk => hk.2) (.int .u64 t1011)) (fun _ hk => hk.2) (.string t1012)) (fun _ hk => hk.2) (.slice Ao54 t1013.length co54)) (fun _ h_ => h_.1))) hb); have n1_ := Aside0.mk (Kd.R_below (by (with_reducible repeat (first | apply Kd.R_alloc | apply Kd.R_drewN | apply Kd.R_drew)); exact (Kd.R_mono (Kd.R_far (p := ⟨gb1018, 3, none⟩) (Kd.R_far (p := ⟨gb1018, 2, none⟩) (Kd.R_far (p := ⟨gb1018, 1, none⟩) (Kd.R_far (p := ⟨gb1018, 0, none⟩) (Kd.R_mono HO1015.out (fun k_ hk => (⟨hk, hk.2⟩ : _ ∧ k_ ≠ gb1018))) (fun _ hk => hk.2) (.int .i64 t1010)) (fun _ hk => hk.2) (.int .u64 t1011)) (fun _ hk => hk.2) (.string t1012)) (fun _ hk => hk.2) (.slice Ao54 t1013.length co54)) (fun _ h_ => h_.1))) hb); have n2_ := Aside0.mk (blk_below (g := gb995) (o := .cells #[.int .i64 a0_0, .int .u64 a0_1, .string a0_2, .slice A0_3 l0_3.length c0_3] 25 (0, 0)) (by (with_reducible repeat (first | refine blk_drewN ?_ _ | refine blk_drew ?_ | refine blk_alloc ?_ _)); refine blk_far ?_ NB995_1018.out _; (with_reducible repeat (first | refine blk_drewN ?_ _ | refine blk_drew ?_ | refine blk_alloc ?_ _)); refine blk_far ?_ NB995_1018.out _; (with_reducible repeat (first | refine blk_drewN ?_ _ | refine blk_drew ?_ | refine blk_alloc ?_ _)); refine blk_far ?_ NB995_1018.out _; (with_reducible repeat (first | refine blk_drewN ?_ _ | refine blk_drew ?_ | refine blk_alloc ?_ _)); refine blk_far ?_ NB995_1018.out _; (with_reducible repeat (first | refine blk_drewN ?_ _ | refine blk_drew ?_ | refine blk_alloc ?_ _)); exact BK995.out) hb); have n3_ := Aside0.mk (blk_below (g := gb1018) (o := .cells #[.int .i64 t1010, .int .u64 t1011, .string t1012, .slice Ao54 t1013.length co54] 25 (0, 0)) (by (with_reducible repeat (first | refine blk_drewN ?_ _ | refine blk_drew ?_ | refine blk_alloc ?_ _)); refine blk_put (cs := #[.int .i64 t1010, .int .u64 t1011, .string t1012, .slice none 0 0]) ?_ 3 _ rfl; (with_reducible repeat (first | refine blk_drewN ?_ _ | refine blk_drew ?_ | refine blk_alloc ?_ _)); refine blk_put (cs := #[.int .i64 t1010, .int .u64 t1011, .string (⟨#[]⟩ : ByteArray), .slice none 0 0]) ?_ 2 _ rfl; (with_reducible repeat (first | refine blk_drewN ?_ _ | refine blk_drew ?_ | refine blk_alloc ?_ _)); refine blk_put (cs := #[.int .i64 t1010, .int .u64 0, .string (⟨#[]⟩ : ByteArray), .slice none 0 0]) ?_ 1 _ rfl; (with_reducible repeat (first | refine blk_drewN ?_ _ | refine blk_drew ?_ | refine blk_alloc ?_ _)); refine blk_put (cs := #[.int .i64 0, .int .u64 0, .string (⟨#[]⟩ : ByteArray), .slice none 0 0]) ?_ 0 _ rfl; (with_reducible repeat (first | refine blk_drewN ?_ _ | refine blk_drew ?_ | refine blk_alloc ?_ _)); exact BK1018.out) hb); have n4_ := Aside0.mk (below_step (by repeat (first | (with_reducible first | exact HB.out | apply below_alloc | apply pw_below_drewN | apply below_drew1 | refine below_set ?_ GE995.out | refine below_set ?_ GE1018.out) | exact HB.out)) hb); clear HO_10; clear HO1015; clear BK995; clear BK1018; clear HB; have HO_10 := n0_; have HO1015 := n1_; have BK995 := n2_; have BK1018 := n3_; have HB := n4_; clear n0_ n1_ n2_ n3_ n4_; (try clear hb); (try clear hb2); (try clear hk); (try clear hi)))
                       go_roundg kj39
                       case measure => have := HJ5.out; have := HK2.out; have := HJ27.out; have := HJ39.out; omega
                       case rel => exact ⟨(x9_39), (wrap64 (x11_2 + 1)), (by first | rfl | (simp; done) | (simp [*]; done)), (by first | rfl | (simp; done) | (simp [*]; done)), H', ⟨by have := HJ5.out; have := HK2.out; have := HJ27.out; have := HJ39.out; omega⟩, ⟨by (with_reducible repeat (first | apply Kd.R_alloc | apply Kd.R_drewN | apply Kd.R_drew)); exact HO_10.out⟩, ⟨by (with_reducible repeat (first | refine blk_drewN ?_ _ | refine blk_drew ?_ | refine blk_alloc ?_ _)); exact BK995.out⟩, ⟨by repeat (first | (with_reducible first | exact HB.out | apply below_alloc | apply pw_below_drewN | apply below_drew1 | refine below_set ?_ GE995.out | refine below_set ?_ GE1018.out) | exact HB.out)⟩⟩
                      ·replace c49 := Bool.eq_false_iff.mpr c49
                       subst c49
                       have H1 : (none) = some r := by rw [if_neg (show ¬ (false = true) by decide)] at H; exact H
                       clear H
                       have H := H1
                       clear H1
                       exact absurd H (by simp)
                     ·rw [if_neg c47] at H
                      exact absurd H (by simp)
                    ·rw [if_neg c46] at H
                     exact absurd H (by simp)
                   ·rw [if_neg c44] at H
                    exact absurd H (by simp)
                  ·rw [if_neg c43] at H
                   exact absurd H (by simp)
                 ·rw [if_neg c42] at H
                  exact absurd H (by simp)
           ·rw [if_neg c27] at H
            have c27b0 : (t1005 == 0) = false := beq_eq_false_iff_ne.mpr c27
            have c27b1 : (t1005 != 0) = true := bne_iff_ne.mpr c27
            (try (have c26b0nc27 := c26b0; simp only [c27b0, c27b1] at c26b0nc27; (try simp at c26b0nc27)))
            (try (have c26b2nc27 := c26b2; simp only [c27b0, c27b1] at c26b2nc27; (try simp at c26b2nc27)))
            have H' := Aside0.mk H
            clear H
            obtain ⟨Ao57, co57, eo57⟩ := Kd.R_slice HO_10.out
            subst eo57
            try go_wp2
            have n0_ := Aside0.mk (Kd.R_drew HO_10.out)
            have n1_ := Aside0.mk (blk_drew BK995.out)
            have n2_ := Aside0.mk (below_drew1 HB.out)
            clear HO_10
            clear BK995
            clear HB
            have HO_10 := n0_
            have BK995 := n1_
            have HB := n2_
            clear n0_ n1_ n2_
            have p1003 : 0 ≤ (x11_2 : Int) := of_decide_eq_true (by first | (with_reducible assumption) | assumption)
            have q1003 : x11_2 < (t1000.length : Int) := of_decide_eq_true (by first | (with_reducible assumption) | assumption)
            obtain ⟨ad1003, e1003, hx1003_0⟩ := Kd.at_int (Kd.R_reads' HO_10.out).2.2 x11_2 p1003 q1003
            cases e1003
            replace p1003 := eq_true p1003
            replace q1003 := eq_true q1003
            refine start_ (n := 11) (S := fun w' => w'.cell? ⟨gb995, 0, none⟩ = some (.int .i64 a0_0) ∧ w'.cell? ⟨gb995, 1, none⟩ = some (.int .u64 a0_1) ∧ w'.cell? ⟨gb995, 2, none⟩ = some (.string a0_2) ∧ w'.cell? ⟨gb995, 3, none⟩ = some (.slice A0_3 l0_3.length c0_3) ∧ w'.cell? (ad1003.add (x11_2).toNat) = some (.int .i64 (rd t1000 x11_2))) (ds := []) #[false, false, false, false, false, false, false, false, false, false, false] (by kernel_rfl) rfl rfl ⟨(blk_cell BK995.out 0).trans rfl, (blk_cell BK995.out 1).trans rfl, (blk_cell BK995.out 2).trans rfl, (blk_cell BK995.out 3).trans rfl, hx1003_0⟩ (fun hHeld => ?_); refine with_tabW polyglotlaw16_AmqprimBack.tab11 polyglotlaw16_AmqprimBack.bits11 (fun HT_ HW_ => ?_)
            generalize wr.drew = w58 at HO_10 BK995 HB hx1003_0 hHeld ⊢
            refine pure_ (i := 0) (N := some 47) (v := ?_) (a' := ?_) #[true, false, false, false, false, false, false, false, false, false, false] rfl rfl (any_of HT_.out (by kernel_rfl)) (fun _ _ _ h => h) (Or.inl ⟨by rfl, ?_⟩) ?_ ?_
            rotate_left
            ·intro w'
             go_simp
             with_reducible rfl
            rotate_left
            ·simp only [Act.put, List.setIfInBounds_toArray, List.set_cons_zero, List.set_cons_succ, i64_w, i32_w]
             rfl
            refine pure_ (i := 1) (N := some 48) (v := ?_) (a' := ?_) #[true, true, false, false, false, false, false, false, false, false, false] rfl rfl (any_of HT_.out (by kernel_rfl)) (fun _ _ _ h => h) (Or.inl ⟨by rfl, ?_⟩) ?_ ?_
            rotate_left
            ·intro w'
             go_simp
             with_reducible rfl
            rotate_left
            ·simp only [Act.put, List.setIfInBounds_toArray, List.set_cons_zero, List.set_cons_succ, i64_w, i32_w]
             rfl
            refine pure_ (i := 2) (N := some 49) (v := ?_) (a' := ?_) #[true, true, true, false, false, false, false, false, false, false, false] rfl rfl (any_of HT_.out (by kernel_rfl)) (fun _ _ _ h => h) (Or.inl ⟨by rfl, ?_⟩) ?_ ?_
            rotate_left
            ·intro w'
             go_simp
             with_reducible rfl
            rotate_left
            ·simp only [Act.put, List.setIfInBounds_toArray, List.set_cons_zero, List.set_cons_succ, i64_w, i32_w]
             rfl
            refine take_ (i := 3) (N := some 50) (v := ?_) (a' := ?_) #[true, true, true, true, false, false, false, false, false, false, false] rfl rfl (take_ofW HT_.out HW_.out (by kernel_rfl)) (fun _ _ _ h => h) (Or.inl ⟨by rfl, ?_⟩) hHeld ?_ ?_
            rotate_left
            ·rintro w' ⟨s0, s1, s2, s3, s4⟩
             go_simp
             with_reducible rfl
            rotate_left
            ·simp only [Act.put, List.setIfInBounds_toArray, List.set_cons_zero, List.set_cons_succ, i64_w, i32_w]
             rfl
            refine take_ (i := 4) (N := some 51) (v := ?_) (a' := ?_) #[true, true, true, true, true, false, false, false, false, false, false] rfl rfl (take_ofW HT_.out HW_.out (by kernel_rfl)) (fun _ _ _ h => h) (Or.inl ⟨by rfl, ?_⟩) hHeld ?_ ?_
            rotate_left
            ·rintro w' ⟨s0, s1, s2, s3, s4⟩
             go_simp
             with_reducible rfl
            rotate_left
            ·simp only [Act.put, List.setIfInBounds_toArray, List.set_cons_zero, List.set_cons_succ, i64_w, i32_w]
             rfl
            refine one_ (i := 5) (N := some 52) #[true, true, true, true, true, true, false, false, false, false, false] rfl rfl (one_of HT_.out (by kernel_rfl)) (by decide) (fun K hK => ?_)
            refine goes_ Tryd.func25 (by kernel_rfl) rfl #[.int .i64 (rd t1000 x11_2), .agg #[.int .i64 a0_0, .int .u64 a0_1, .string a0_2, .slice A0_3 l0_3.length c0_3]] (by rfl) rfl rfl (by (try simp only [List.map_toArray, List.map_cons, List.map_nil]); first | done | rfl | (simp only [List.length_drop, List.length_take]; rfl)) ?_
            with_reducible refine (amqprim_Put.calls (rd t1000 x11_2) a0_0 a0_1 a0_2 _ _ l0_3 t1004 t1005 _ ?side1 ?side2 ?side3 A24.out).mono ?_
            (case side1 => exact HT.out.below (by repeat (first | (with_reducible first | exact HB.out | apply below_alloc | apply pw_below_drewN | apply below_drew1 | refine below_set ?_ GE995.out) | exact HB.out)))
            (case side2 => repeat (first | exact (Kd.C_below HR0_3.out HB.out) | (with_reducible refine Kd.C_alloc ?_ _) | (with_reducible refine Kd.C_drewN ?_ _) | (with_reducible refine Kd.C_drew ?_)))
            (case side3 => exact HC0_3.out)
            rintro e w59 ⟨rfl, hb⟩
            have HS4_ := (hb.cell (World.block_lt_of_cell? _ _ (hHeld.2.2.2.2))).trans (hHeld.2.2.2.2)
            refine ⟨_, rfl, ?_⟩
            have n0_ := Aside0.mk (Kd.R_below (by (with_reducible repeat (first | apply Kd.R_alloc | apply Kd.R_drewN | apply Kd.R_drew)); exact HO_10.out) hb)
            have n1_ := Aside0.mk (blk_below (g := gb995) (o := .cells #[.int .i64 a0_0, .int .u64 a0_1, .string a0_2, .slice A0_3 l0_3.length c0_3] 25 (0, 0)) (by (with_reducible repeat (first | refine blk_drewN ?_ _ | refine blk_drew ?_ | refine blk_alloc ?_ _)); exact BK995.out) hb)
            have n2_ := Aside0.mk (below_step (by repeat (first | (with_reducible first | exact HB.out | apply below_alloc | apply pw_below_drewN | apply below_drew1 | refine below_set ?_ GE995.out) | exact HB.out)) hb)
            clear HO_10
            clear BK995
            clear HB
            have HO_10 := n0_
            have BK995 := n1_
            have HB := n2_
            clear n0_ n1_ n2_
            (try clear hb)
            (try clear hb2)
            (try clear hk)
            (try clear hi)
            refine hK.out _ _ ⟨(blk_cell BK995.out 0).trans rfl, (blk_cell BK995.out 1).trans rfl, (blk_cell BK995.out 2).trans rfl, (blk_cell BK995.out 3).trans rfl, HS4_⟩ (fun hHeld => ?_)
            clear hK K
            refine norm_ (a' := ?_) ?_ ?_
            rotate_left
            ·show Act.put _ (some 52) _ = _
             simp only [Act.put, List.setIfInBounds_toArray, List.set_cons_zero, List.set_cons_succ, i64_w, i32_w]
             rfl
            refine pure_ (i := 6) (N := some 46) (v := ?_) (a' := ?_) #[true, true, true, true, true, true, true, false, false, false, false] rfl rfl (any_of HT_.out (by kernel_rfl)) (fun _ _ _ h => h) (Or.inl ⟨by rfl, ?_⟩) ?_ ?_
            rotate_left
            ·intro w'
             go_simp
             with_reducible rfl
            rotate_left
            ·simp only [Act.put, List.setIfInBounds_toArray, List.set_cons_zero, List.set_cons_succ, i64_w, i32_w]
             rfl
            refine pure_ (i := 7) (N := some 53) (v := ?_) (a' := ?_) #[true, true, true, true, true, true, true, true, false, false, false] rfl rfl (any_of HT_.out (by kernel_rfl)) (fun _ _ _ h => h) (Or.inl ⟨by rfl, ?_⟩) ?_ ?_
            rotate_left
            ·intro w'
             go_simp
             with_reducible rfl
            rotate_left
            ·simp only [Act.put, List.setIfInBounds_toArray, List.set_cons_zero, List.set_cons_succ, i64_w, i32_w]
             rfl
            refine pure_ (i := 8) (N := some 54) (v := ?_) (a' := ?_) #[true, true, true, true, true, true, true, true, true, false, false] rfl rfl (any_of HT_.out (by kernel_rfl)) (fun _ _ _ h => h) (Or.inl ⟨by rfl, ?_⟩) ?_ ?_
            rotate_left
            ·intro w'
             go_simp
             with_reducible rfl
            rotate_left
            ·simp only [Act.put, List.setIfInBounds_toArray, List.set_cons_zero, List.set_cons_succ, i64_w, i32_w]
             rfl
            refine pure_ (i := 9) (N := some 12) (v := ?_) (a' := ?_) #[true, true, true, true, true, true, true, true, true, true, false] rfl rfl (any_of HT_.out (by kernel_rfl)) (fun _ _ _ h => h) (Or.inl ⟨by rfl, ?_⟩) ?_ ?_
            rotate_left
            ·intro w'
             go_simp
             with_reducible rfl
            rotate_left
            ·simp only [Act.put, List.setIfInBounds_toArray, List.set_cons_zero, List.set_cons_succ, i64_w, i32_w]
             rfl
            refine pure_ (i := 10) (N := some 13) (v := ?_) (a' := ?_) #[true, true, true, true, true, true, true, true, true, true, true] rfl rfl (any_of HT_.out (by kernel_rfl)) (fun _ _ _ h => h) (Or.inl ⟨by rfl, ?_⟩) ?_ ?_
            rotate_left
            ·intro w'
             go_simp
             with_reducible rfl
            rotate_left
            ·simp only [Act.put, List.setIfInBounds_toArray, List.set_cons_zero, List.set_cons_succ, i64_w, i32_w]
             rfl
            refine done_ (done_of HT_.out (by kernel_rfl)) ?_
            try go_wp2
            have n0_ := Aside0.mk (Kd.R_drew HO_10.out)
            have n1_ := Aside0.mk (blk_drew BK995.out)
            have n2_ := Aside0.mk (below_drew1 HB.out)
            clear HO_10
            clear BK995
            clear HB
            have HO_10 := n0_
            have BK995 := n1_
            have HB := n2_
            clear n0_ n1_ n2_
            have p1006 : 0 ≤ (x11_2 : Int) := of_decide_eq_true (by first | (with_reducible assumption) | assumption)
            have q1006 : x11_2 < (t1000.length : Int) := of_decide_eq_true (by first | (with_reducible assumption) | assumption)
            obtain ⟨ad1006, e1006, hx1006_0⟩ := Kd.at_int (Kd.R_reads' HO_10.out).2.2 x11_2 p1006 q1006
            obtain rfl : ad1003 = ad1006 := (by injection e1006)
            replace p1006 := eq_true p1006
            replace q1006 := eq_true q1006
            refine start_ (n := 9) (S := fun w' => w'.cell? ⟨gb995, 0, none⟩ = some (.int .i64 a0_0) ∧ w'.cell? ⟨gb995, 1, none⟩ = some (.int .u64 a0_1) ∧ w'.cell? ⟨gb995, 2, none⟩ = some (.string a0_2) ∧ w'.cell? ⟨gb995, 3, none⟩ = some (.slice A0_3 l0_3.length c0_3) ∧ w'.cell? (ad1003.add (x11_2).toNat) = some (.int .i64 (rd t1000 x11_2))) (ds := []) #[false, false, false, false, false, false, false, false, false] (by kernel_rfl) rfl rfl ⟨(blk_cell BK995.out 0).trans rfl, (blk_cell BK995.out 1).trans rfl, (blk_cell BK995.out 2).trans rfl, (blk_cell BK995.out 3).trans rfl, hx1006_0⟩ (fun hHeld => ?_); refine with_tabW polyglotlaw16_AmqprimBack.tab12 polyglotlaw16_AmqprimBack.bits12 (fun HT_ HW_ => ?_)
            generalize w59.drew = w60 at HO_10 BK995 HB hx1006_0 hHeld ⊢
            refine pure_ (i := 0) (N := some 55) (v := ?_) (a' := ?_) #[true, false, false, false, false, false, false, false, false] rfl rfl (any_of HT_.out (by kernel_rfl)) (fun _ _ _ h => h) (Or.inl ⟨by rfl, ?_⟩) ?_ ?_
            rotate_left
            ·intro w'
             go_simp
             with_reducible rfl
            rotate_left
            ·simp only [Act.put, List.setIfInBounds_toArray, List.set_cons_zero, List.set_cons_succ, i64_w, i32_w]
             rfl
            refine pure_ (i := 1) (N := some 56) (v := ?_) (a' := ?_) #[true, true, false, false, false, false, false, false, false] rfl rfl (any_of HT_.out (by kernel_rfl)) (fun _ _ _ h => h) (Or.inl ⟨by rfl, ?_⟩) ?_ ?_
            rotate_left
            ·intro w'
             go_simp
             with_reducible rfl
            rotate_left
            ·simp only [Act.put, List.setIfInBounds_toArray, List.set_cons_zero, List.set_cons_succ, i64_w, i32_w]
             rfl
            refine pure_ (i := 2) (N := some 57) (v := ?_) (a' := ?_) #[true, true, true, false, false, false, false, false, false] rfl rfl (any_of HT_.out (by kernel_rfl)) (fun _ _ _ h => h) (Or.inl ⟨by rfl, ?_⟩) ?_ ?_
            rotate_left
            ·intro w'
             go_simp
             with_reducible rfl
            rotate_left
            ·simp only [Act.put, List.setIfInBounds_toArray, List.set_cons_zero, List.set_cons_succ, i64_w, i32_w]
             rfl
            refine pure_ (i := 3) (N := some 58) (v := ?_) (a' := ?_) #[true, true, true, true, false, false, false, false, false] rfl rfl (any_of HT_.out (by kernel_rfl)) (fun _ _ _ h => h) (Or.inl ⟨by rfl, ?_⟩) ?_ ?_
            rotate_left
            ·intro w'
             go_simp
             with_reducible rfl
            rotate_left
            ·simp only [Act.put, List.setIfInBounds_toArray, List.set_cons_zero, List.set_cons_succ, i64_w, i32_w]
             rfl
            refine pure_ (i := 4) (N := some 59) (v := ?_) (a' := ?_) #[true, true, true, true, true, false, false, false, false] rfl rfl (any_of HT_.out (by kernel_rfl)) (fun _ _ _ h => h) (Or.inl ⟨by rfl, ?_⟩) ?_ ?_
            rotate_left
            ·intro w'
             go_simp
             with_reducible rfl
            rotate_left
            ·simp only [Act.put, List.setIfInBounds_toArray, List.set_cons_zero, List.set_cons_succ, i64_w, i32_w]
             rfl
            refine take_ (i := 5) (N := some 60) (v := ?_) (a' := ?_) #[true, true, true, true, true, true, false, false, false] rfl rfl (take_ofW HT_.out HW_.out (by kernel_rfl)) (fun _ _ _ h => h) (Or.inl ⟨by rfl, ?_⟩) hHeld ?_ ?_
            rotate_left
            ·rintro w' ⟨s0, s1, s2, s3, s4⟩
             go_simp
             with_reducible rfl
            rotate_left
            ·simp only [Act.put, List.setIfInBounds_toArray, List.set_cons_zero, List.set_cons_succ, i64_w, i32_w]
             rfl
            refine take_ (i := 6) (N := some 61) (v := ?_) (a' := ?_) #[true, true, true, true, true, true, true, false, false] rfl rfl (take_ofW HT_.out HW_.out (by kernel_rfl)) (fun _ _ _ h => h) (Or.inl ⟨by rfl, ?_⟩) hHeld ?_ ?_
            rotate_left
            ·rintro w' ⟨s0, s1, s2, s3, s4⟩
             go_simp
             with_reducible rfl
            rotate_left
            ·simp only [Act.put, List.setIfInBounds_toArray, List.set_cons_zero, List.set_cons_succ, i64_w, i32_w]
             rfl
            refine one_ (i := 7) (N := some 62) #[true, true, true, true, true, true, true, true, false] rfl rfl (one_of HT_.out (by kernel_rfl)) (by decide) (fun K hK => ?_)
            refine goes_ Tryd.func24 (by kernel_rfl) rfl #[.int .i64 (rd t1000 x11_2), .agg #[.int .i64 a0_0, .int .u64 a0_1, .string a0_2, .slice A0_3 l0_3.length c0_3]] (by rfl) rfl rfl (by (try simp only [List.map_toArray, List.map_cons, List.map_nil]); first | done | rfl | (simp only [List.length_drop, List.length_take]; rfl)) ?_
            with_reducible refine (amqprim_Fits.calls (rd t1000 x11_2) a0_0 a0_1 a0_2 _ _ l0_3 t1007 _ ?side1 ?side2 ?side3 A25.out).mono ?_
            (case side1 => exact HT.out.below (by repeat (first | (with_reducible first | exact HB.out | apply below_alloc | apply pw_below_drewN | apply below_drew1 | refine below_set ?_ GE995.out) | exact HB.out)))
            (case side2 => repeat (first | exact (Kd.C_below HR0_3.out HB.out) | (with_reducible refine Kd.C_alloc ?_ _) | (with_reducible refine Kd.C_drewN ?_ _) | (with_reducible refine Kd.C_drew ?_)))
            (case side3 => exact HC0_3.out)
            rintro e w61 ⟨rfl, hb⟩
            have HS4_ := (hb.cell (World.block_lt_of_cell? _ _ (hHeld.2.2.2.2))).trans (hHeld.2.2.2.2)
            refine ⟨_, rfl, ?_⟩
            have n0_ := Aside0.mk (Kd.R_below (by (with_reducible repeat (first | apply Kd.R_alloc | apply Kd.R_drewN | apply Kd.R_drew)); exact HO_10.out) hb)
            have n1_ := Aside0.mk (blk_below (g := gb995) (o := .cells #[.int .i64 a0_0, .int .u64 a0_1, .string a0_2, .slice A0_3 l0_3.length c0_3] 25 (0, 0)) (by (with_reducible repeat (first | refine blk_drewN ?_ _ | refine blk_drew ?_ | refine blk_alloc ?_ _)); exact BK995.out) hb)
            have n2_ := Aside0.mk (below_step (by repeat (first | (with_reducible first | exact HB.out | apply below_alloc | apply pw_below_drewN | apply below_drew1 | refine below_set ?_ GE995.out) | exact HB.out)) hb)
            clear HO_10
            clear BK995
            clear HB
            have HO_10 := n0_
            have BK995 := n1_
            have HB := n2_
            clear n0_ n1_ n2_
            (try clear hb)
            (try clear hb2)
            (try clear hk)
            (try clear hi)
            refine hK.out _ _ ⟨(blk_cell BK995.out 0).trans rfl, (blk_cell BK995.out 1).trans rfl, (blk_cell BK995.out 2).trans rfl, (blk_cell BK995.out 3).trans rfl, HS4_⟩ (fun hHeld => ?_)
            clear hK K
            refine norm_ (a' := ?_) ?_ ?_
            rotate_left
            ·show Act.put _ (some 62) _ = _
             simp only [Act.put, List.setIfInBounds_toArray, List.set_cons_zero, List.set_cons_succ, i64_w, i32_w]
             rfl
            refine pure_ (i := 8) (N := some 63) (v := ?_) (a' := ?_) #[true, true, true, true, true, true, true, true, true] rfl rfl (any_of HT_.out (by kernel_rfl)) (fun _ _ _ h => h) (Or.inl ⟨by rfl, ?_⟩) ?_ ?_
            rotate_left
            ·intro w'
             go_simp
             with_reducible rfl
            rotate_left
            ·simp only [Act.put, List.setIfInBounds_toArray, List.set_cons_zero, List.set_cons_succ, i64_w, i32_w]
             rfl
            refine done_ (done_of HT_.out (by kernel_rfl)) ?_
            try go_wp2
            go_roundg k2
            case measure => have := HJ5.out; have := HK2.out; omega
            case rel => exact ⟨(x9_2), (wrap64 (x11_2 + 1)), (by first | rfl | (simp; done) | (simp [*]; done)), (by first | rfl | (simp; done) | (simp [*]; done)), H', ⟨by have := HJ5.out; have := HK2.out; omega⟩, ⟨by (with_reducible repeat (first | apply Kd.R_alloc | apply Kd.R_drewN | apply Kd.R_drew)); exact HO_10.out⟩, ⟨by (with_reducible repeat (first | refine blk_drewN ?_ _ | refine blk_drew ?_ | refine blk_alloc ?_ _)); exact BK995.out⟩, ⟨by repeat (first | (with_reducible first | exact HB.out | apply below_alloc | apply pw_below_drewN | apply below_drew1 | refine below_set ?_ GE995.out) | exact HB.out)⟩⟩
         ·rw [if_neg c23] at H
          exact absurd H (by simp)
        ·rw [if_neg c22] at H
         have c22b0 : decide (x11_2 < (t1000.length : Int)) = false := decide_eq_false c22
         clear c22
         have HC62 := Aside0.mk H
         clear H
         obtain ⟨Ao63, co63, eo63⟩ := Kd.R_slice HO_10.out
         subst eo63
         go_upto_region 22 with (fail)
         go_cut [125] (fun v125 wc => ∃ (kq : Nat) (x125_61 : Bool), v125 = .bool x125_61 ∧ Aside0 (polyglotlaw16_AmqprimBack.j4 kq a1 a2 x125_61 = some r) ∧ Aside0 (kq ≤ k2) ∧ Aside0 (wc.heap[gb995]? = some (.cells #[.int .i64 a0_0, .int .u64 a0_1, .string a0_2, (.slice A0_3 l0_3.length c0_3)] 25 (0, 0))) ∧ Aside0 (Below w.heap.size w wc))
         case first =>
          have H := HC62.out
          clear HC62
          by_cases c64 : t999 = 0
          ·rw [if_pos c64] at H
           have c64b0 : (t999 == 0) = true := beq_iff_eq.mpr c64
           have c64b1 : (t999 != 0) = false := bne_eq_false_iff_eq.mpr c64
           clear c64
           (first | rw [c64b0] | (simp only [i64_w, i32_w]; rw [c64b0]) | skip)
           have H' := Aside0.mk H
           clear H
           go_wp2
           go_meet
           case rel => exact ⟨_, (decide (x9_2 < 0)), (by first | rfl | (simp; done) | (simp [*]; done)), H', ⟨by have := HJ5.out; have := HK2.out; first | omega | exact Nat.le_refl _⟩, ⟨by (with_reducible repeat (first | refine blk_drewN ?_ _ | refine blk_drew ?_ | refine blk_alloc ?_ _)); exact BK995.out⟩, ⟨by repeat (first | (with_reducible first | exact HB.out | apply below_alloc | apply pw_below_drewN | apply below_drew1 | refine below_set ?_ GE995.out) | exact HB.out)⟩⟩
          ·rw [if_neg c64] at H
           have c64b0 : (t999 == 0) = false := beq_eq_false_iff_ne.mpr c64
           have c64b1 : (t999 != 0) = true := bne_iff_ne.mpr c64
           (first | rw [c64b0] | (simp only [i64_w, i32_w]; rw [c64b0]) | skip)
           have H' := Aside0.mk H
           clear H
           go_wp2
           go_meet
           case rel => exact ⟨_, (false), (by first | rfl | (simp; done) | (simp [*]; done)), H', ⟨by have := HJ5.out; have := HK2.out; first | omega | exact Nat.le_refl _⟩, ⟨by (with_reducible repeat (first | refine blk_drewN ?_ _ | refine blk_drew ?_ | refine blk_alloc ?_ _)); exact BK995.out⟩, ⟨by repeat (first | (with_reducible first | exact HB.out | apply below_alloc | apply pw_below_drewN | apply below_drew1 | refine below_set ?_ GE995.out) | exact HB.out)⟩⟩
         case rest =>
          clear HC62
          try clear c1
          try clear p1
          try clear q1
          try clear hx1
          try clear c2
          try clear p2
          try clear c3
          try clear c4
          try clear c5
          try clear c6
          try clear p6
          try clear c8
          try clear c10
          try clear p10
          try clear q10
          try clear hx10
          try clear c15
          try clear c18
          try clear c19
          try clear c20
          try clear c22
          try clear c22b0
          try clear c23
          try clear c23b0
          try clear c24
          try clear c25
          try clear c26
          try clear c26b0
          try clear c26b1
          try clear c26b2
          try clear c27
          try clear c27b0
          try clear c27b1
          try clear c34
          try clear c34b0
          try clear c34b1
          try clear c35
          try clear c35b0
          try clear c36
          try clear c36b0
          try clear c36b1
          try clear c37
          try clear c37b0
          try clear c38
          try clear c38b0
          try clear c39
          try clear c41
          try clear c41b0
          try clear c42
          try clear c42b0
          try clear c43
          try clear c43b0
          try clear c44
          try clear c44b0
          try clear c44b1
          try clear c44b2
          try clear c46
          try clear c46b0
          try clear c46b1
          try clear c47
          try clear c47b0
          try clear c47b1
          try clear c49
          try clear c52
          try clear c64
          try clear c64b0
          try clear c64b1
          try clear p64
          try clear hcz11_0
          try clear hcz11_1
          try clear hcz11_2
          try clear hcz11_3
          try clear hcz13_0
          try clear hcz13_1
          try clear hcz13_2
          try clear hcz13_3
          try clear hcz18_0
          try clear hcz18_1
          try clear hcz18_2
          try clear hcz18_3
          try clear hcz20_0
          try clear hcz20_1
          try clear hcz20_2
          try clear hcz20_3
          try clear hcz53_0
          try clear hcz53_1
          try clear hcz53_2
          try clear hcz53_3
          try clear hcz55_0
          try clear hcz55_1
          try clear hcz55_2
          try clear hcz55_3
          try clear hfz11_0
          try clear hfz11_1
          try clear hfz11_2
          try clear hfz11_3
          try clear hfz13_0
          try clear hfz13_1
          try clear hfz13_2
          try clear hfz13_3
          try clear hfz18_0
          try clear hfz18_1
          try clear hfz18_2
          try clear hfz18_3
          try clear hfz20_0
          try clear hfz20_1
          try clear hfz20_2
          try clear hfz20_3
          try clear hfz53_0
          try clear hfz53_1
          try clear hfz53_2
          try clear hfz53_3
          try clear hfz55_0
          try clear hfz55_1
          try clear hfz55_2
          try clear hfz55_3
          try clear hx1003_0
          try clear hx1006_0
          try clear hx1008_0
          try clear hx1009_0
          try clear p1
          try clear p10
          try clear p1003
          try clear p1006
          try clear p1008
          try clear p1009
          try clear p2
          try clear p6
          try clear q1
          try clear q10
          try clear q1003
          try clear q1006
          try clear q1008
          try clear q1009
          obtain ⟨kq, x125_61, rfl, HA, HJ61, BK995, HB⟩ := hcut
          cases kq with
          | zero => exact absurd HA.out (by simp [polyglotlaw16_AmqprimBack.j4])
          | succ kj61 =>
           have H := HA.out
           clear HA
           simp only [polyglotlaw16_AmqprimBack.j4] at H
           by_cases c65 : x125_61 = true
           ·subst c65
            have H1 : (none) = some r := by rw [if_pos rfl] at H; exact H
            clear H
            have H := H1
            clear H1
            exact absurd H (by simp)
           ·replace c65 := Bool.eq_false_iff.mpr c65
            subst c65
            have H1 : ((amqprim_Get.f kj61 a2 a1).bind fun bt1020 => (if bt1020.2.2.2.2.2 = 0 then ((amqprim_Put.f a2 bt1020.1 bt1020.2.1 bt1020.2.2.1 bt1020.2.2.2.1).bind fun bt1029 => (if bt1020.2.2.2.2.1 ≥ 0 then (if bt1020.2.2.2.2.1 ≤ (a1.size : Int) then ((amqprim_Check.f bt1020.1 bt1020.2.1 bt1020.2.2.1 bt1020.2.2.2.1).bind fun t1031 => (if t1031 = 0 then (if bt1029.2 = 0 then (if 0 ≤ bt1020.2.2.2.2.1 then (some (bt1029.1.toList == (a1.extract 0 (bt1020.2.2.2.2.1 : Int).toNat).toList)) else (none)) else (none)) else (none))) else (none)) else (none))) else (some (bt1020.2.2.2.2.1 == 0)))) = some r := by rw [if_neg (show ¬ (false = true) by decide)] at H; exact H
            clear H
            have H := H1
            clear H1
            replace H := Option.bind_eq_some_iff.mp H
            obtain ⟨⟨t1020, t1021, t1022, t1023, t1026, t1027⟩, A660, H⟩ := H
            replace H : (if t1027 = 0 then ((amqprim_Put.f a2 t1020 t1021 t1022 t1023).bind fun bt1029 => (if t1026 ≥ 0 then (if t1026 ≤ (a1.size : Int) then ((amqprim_Check.f t1020 t1021 t1022 t1023).bind fun t1031 => (if t1031 = 0 then (if bt1029.2 = 0 then (if 0 ≤ t1026 then (some (bt1029.1.toList == (a1.extract 0 (t1026 : Int).toNat).toList)) else (none)) else (none)) else (none))) else (none)) else (none))) else (some (t1026 == 0))) = some r := H
            have A66 := Aside0.mk A660
            clear A660
            by_cases c67 : t1027 = 0
            ·rw [if_pos c67] at H
             have c67b0 : (t1027 == 0) = true := beq_iff_eq.mpr c67
             have c67b1 : (t1027 != 0) = false := bne_eq_false_iff_eq.mpr c67
             clear c67
             replace H := Option.bind_eq_some_iff.mp H
             obtain ⟨⟨t1029, t1030⟩, A680, H⟩ := H
             replace H : (if t1026 ≥ 0 then (if t1026 ≤ (a1.size : Int) then ((amqprim_Check.f t1020 t1021 t1022 t1023).bind fun t1031 => (if t1031 = 0 then (if t1030 = 0 then (if 0 ≤ t1026 then (some (t1029.toList == (a1.extract 0 (t1026 : Int).toNat).toList)) else (none)) else (none)) else (none))) else (none)) else (none)) = some r := H
             have A68 := Aside0.mk A680
             clear A680
             by_cases c69 : t1026 ≥ 0
             ·rw [if_pos c69] at H
              have c69b0 : decide (0 ≤ t1026) = true := decide_eq_true c69
              clear c69
              by_cases c70 : t1026 ≤ (a1.size : Int)
              ·rw [if_pos c70] at H
               have c70b0 : decide (t1026 ≤ (a1.size : Int)) = true := decide_eq_true c70
               clear c70
               replace H := Option.bind_eq_some_iff.mp H
               obtain ⟨t1031, A710, H⟩ := H
               replace H : (if t1031 = 0 then (if t1030 = 0 then (if 0 ≤ t1026 then (some (t1029.toList == (a1.extract 0 (t1026 : Int).toNat).toList)) else (none)) else (none)) else (none)) = some r := H
               have A71 := Aside0.mk A710
               clear A710
               by_cases c72 : t1031 = 0
               ·rw [if_pos c72] at H
                have c72b0 : (t1031 == 0) = true := beq_iff_eq.mpr c72
                have c72b1 : (t1031 != 0) = false := bne_eq_false_iff_eq.mpr c72
                clear c72
                by_cases c73 : t1030 = 0
                ·rw [if_pos c73] at H
                 have c73b0 : (t1030 == 0) = true := beq_iff_eq.mpr c73
                 have c73b1 : (t1030 != 0) = false := bne_eq_false_iff_eq.mpr c73
                 clear c73
                 by_cases c74 : 0 ≤ t1026
                 ·rw [if_pos c74] at H
                  have c74b0 := eq_true c74
                  have c74b1 : decide (0 ≤ t1026) = true := decide_eq_true c74
                  clear c74
                  have c75b0 := eq_true (of_decide_eq_true (by first | (with_reducible assumption) | assumption) : t1026 ≤ (a1.size : Int))
                  obtain rfl := Option.some.inj H
                  go_wp2_with (first | ((with_reducible refine gate_callee (f := 37) rfl ?_); refine goesL_ (some 129) rfl rfl Tryd.func37 (by kernel_rfl) rfl #[.int .i64 a2, .string a1] rfl (by (try simp only [List.map_toArray, List.map_cons, List.map_nil]); first | done | rfl | (simp only [List.length_drop, List.length_take]; rfl)) ?_; (with_reducible refine (amqprim_Get.calls kj61 a2 a1 t1020 t1021 t1022 t1023 t1026 t1027 _ ?side1 A66.out).mono ?_); (case side1 => exact HT.out.below (by repeat (first | (with_reducible first | exact HB.out | apply below_alloc | apply pw_below_drewN | apply below_drew1 | refine below_set ?_ GE995.out) | exact HB.out))); rintro e w76 ⟨v1024, rfl, ho0, hb⟩; refine ⟨_, rfl, ?_⟩; have n0_ := Aside0.mk (Kd.R_lower (Kd.R_newB ho0 (g := gb995) (o := .cells #[.int .i64 a0_0, .int .u64 a0_1, .string a0_2, .slice A0_3 l0_3.length c0_3] 25 (0, 0)) (by (with_reducible repeat (first | refine blk_drewN ?_ _ | refine blk_drew ?_ | refine blk_alloc ?_ _)); exact BK995.out)) (below_size (by repeat (first | (with_reducible first | exact HB.out | apply below_alloc | apply pw_below_drewN | apply below_drew1 | refine below_set ?_ GE995.out) | exact HB.out)))); have n1_ := Aside0.mk (blk_below (g := gb995) (o := .cells #[.int .i64 a0_0, .int .u64 a0_1, .string a0_2, .slice A0_3 l0_3.length c0_3] 25 (0, 0)) (by (with_reducible repeat (first | refine blk_drewN ?_ _ | refine blk_drew ?_ | refine blk_alloc ?_ _)); exact BK995.out) hb); have n2_ := Aside0.mk (below_step (by repeat (first | (with_reducible first | exact HB.out | apply below_alloc | apply pw_below_drewN | apply below_drew1 | refine below_set ?_ GE995.out) | exact HB.out)) hb); clear BK995; clear HB; have HO1025 := n0_; have BK995 := n1_; have HB := n2_; clear n0_ n1_ n2_; (try clear hb); (try clear hb2); (try clear hk); (try clear hi); (try clear ho0)) | ((with_reducible refine gate_dst (N := 17) rfl ?_); (try (refine gate_guard (by rfl) ?_; dsimp only)); refine box_event ?hg (N := 17) ?hd (cs := #[.int .i64 0, .int .u64 0, .string (⟨#[]⟩ : ByteArray), .slice none 0 0]) (t := 25) ?hr ?_; (case hd => rfl); (case hg => rfl); (case hr => first | (go_simp; done) | (go_simp; rfl)); intro gb1028 hg w77 hbox hb; have n0_ := Aside0.mk (Kd.R_below (Kd.R_elderB (by (with_reducible repeat (first | apply Kd.R_alloc | apply Kd.R_drewN | apply Kd.R_drew)); exact HO1025.out) gb1028 (Nat.le_of_eq hg.symm)) hb); have n1_ := Aside0.mk (blk_below (g := gb995) (o := .cells #[.int .i64 a0_0, .int .u64 a0_1, .string a0_2, .slice A0_3 l0_3.length c0_3] 25 (0, 0)) (by (with_reducible repeat (first | refine blk_drewN ?_ _ | refine blk_drew ?_ | refine blk_alloc ?_ _)); exact BK995.out) hb); have n2_ := Aside0.mk (below_step (by repeat (first | (with_reducible first | exact HB.out | apply below_alloc | apply pw_below_drewN | apply below_drew1 | refine below_set ?_ GE995.out) | exact HB.out)) hb); have n3_ := Aside0.mk (hbox); have n4_ := Aside0.mk ((by rw [hg]; exact (below_size (by repeat (first | (with_reducible first | exact HB.out | apply below_alloc | apply pw_below_drewN | apply below_drew1 | refine below_set ?_ GE995.out) | exact HB.out))) : w.heap.size ≤ gb1028)); have n5_ := Aside0.mk ((by rw [hg]; exact (below_size (by repeat (first | (with_reducible first | exact HB.out | apply below_alloc | apply pw_below_drewN | apply below_drew1 | refine below_set ?_ GE995.out) | exact HB.out))) : w.heap.size ≤ gb1028)); have n6_ := Aside0.mk ((by rw [hg]; exact Nat.ne_of_lt (blk_lt (g := gb995) (o := .cells #[.int .i64 a0_0, .int .u64 a0_1, .string a0_2, .slice A0_3 l0_3.length c0_3] 25 (0, 0)) (by (with_reducible repeat (first | refine blk_drewN ?_ _ | refine blk_drew ?_ | refine blk_alloc ?_ _)); exact BK995.out)) : gb995 ≠ gb1028)); have n7_ := Aside0.mk ((by rw [hg]; exact Nat.ne_of_gt (blk_lt (g := gb995) (o := .cells #[.int .i64 a0_0, .int .u64 a0_1, .string a0_2, .slice A0_3 l0_3.length c0_3] 25 (0, 0)) (by (with_reducible repeat (first | refine blk_drewN ?_ _ | refine blk_drew ?_ | refine blk_alloc ?_ _)); exact BK995.out)) : gb1028 ≠ gb995)); clear HO1025; clear BK995; clear HB; have HO1025 := n0_; have BK995 := n1_; have HB := n2_; have BK1028 := n3_; have GW1028 := n4_; have GE1028 := n5_; have NB995_1028 := n6_; have NB1028_995 := n7_; clear n0_ n1_ n2_ n3_ n4_ n5_ n6_ n7_; clear hb hbox hg; have hnb78 := NB1028_995.out; have hnc78 := NB995_1028.out; have hcz79_0 : w77.cell? ⟨gb1028, 0, none⟩ = some (.int .i64 0) := (blk_cell BK1028.out 0).trans rfl; have hcz79_1 : w77.cell? ⟨gb1028, 1, none⟩ = some (.int .u64 0) := (blk_cell BK1028.out 1).trans rfl; have hcz79_2 : w77.cell? ⟨gb1028, 2, none⟩ = some (.string (⟨#[]⟩ : ByteArray)) := (blk_cell BK1028.out 2).trans rfl; have hcz79_3 : w77.cell? ⟨gb1028, 3, none⟩ = some (.slice none 0 0) := (blk_cell BK1028.out 3).trans rfl; have hfz79_0 := blk_frozen BK1028.out 0; have hfz79_1 := blk_frozen BK1028.out 1; have hfz79_2 := blk_frozen BK1028.out 2; have hfz79_3 := blk_frozen BK1028.out 3; obtain ⟨Ao80, co80, eo80⟩ := Kd.R_slice HO1025.out; subst eo80) | ((with_reducible refine gate_callee (f := 25) rfl ?_); refine goesL_ (some 140) rfl rfl Tryd.func25 (by kernel_rfl) rfl #[.int .i64 a2, .agg #[.int .i64 t1020, .int .u64 t1021, .string t1022, .slice Ao80 t1023.length co80]] rfl (by (try simp only [List.map_toArray, List.map_cons, List.map_nil]); first | done | rfl | (simp only [List.length_drop, List.length_take]; rfl)) ?_; (with_reducible refine (amqprim_Put.calls a2 t1020 t1021 t1022 _ _ t1023 t1029 t1030 _ ?side1 ?side2 ?side3 A68.out).mono ?_); (case side1 => exact HT.out.below (by repeat (first | (with_reducible first | exact HB.out | apply below_alloc | apply pw_below_drewN | apply below_drew1 | refine below_set ?_ GE995.out | refine below_set ?_ GE1028.out) | exact HB.out))); (case side2 => refine (Kd.R_reads' (e := 25) (base := w.heap.size) (ok := fun k_ => ((True ∧ k_ ≠ gb995) ∧ k_ ≠ gb1028)) (n := t1023.length) (c := co80) ?_).2.2; exact (by (with_reducible repeat (first | apply Kd.R_alloc | apply Kd.R_drewN | apply Kd.R_drew)); exact (Kd.R_mono (Kd.R_far (p := ⟨gb1028, 3, none⟩) (Kd.R_far (p := ⟨gb1028, 2, none⟩) (Kd.R_far (p := ⟨gb1028, 1, none⟩) (Kd.R_far (p := ⟨gb1028, 0, none⟩) (Kd.R_mono HO1025.out (fun k_ hk => (⟨hk, hk.2⟩ : _ ∧ k_ ≠ gb1028))) (fun _ hk => hk.2) (.int .i64 t1020)) (fun _ hk => hk.2) (.int .u64 t1021)) (fun _ hk => hk.2) (.string t1022)) (fun _ hk => hk.2) (.slice Ao80 t1023.length co80)) (fun _ h_ => h_.1)))); (case side3 => exact (Kd.R_reads' HO1025.out).2.1); rintro e w81 ⟨rfl, hb⟩; refine ⟨_, rfl, ?_⟩; have n0_ := Aside0.mk (Kd.R_below (by (with_reducible repeat (first | apply Kd.R_alloc | apply Kd.R_drewN | apply Kd.R_drew)); exact (Kd.R_mono (Kd.R_far (p := ⟨gb1028, 3, none⟩) (Kd.R_far (p := ⟨gb1028, 2, none⟩) (Kd.R_far (p := ⟨gb1028, 1, none⟩) (Kd.R_far (p := ⟨gb1028, 0, none⟩) (Kd.R_mono HO1025.out (fun k_ hk => (⟨hk, hk.2⟩ : _ ∧ k_ ≠ gb1028))) (fun _ hk => hk.2) (.int .i64 t1020)) (fun _ hk => hk.2) (.int .u64 t1021)) (fun _ hk => hk.2) (.string t1022)) (fun _ hk => hk.2) (.slice Ao80 t1023.length co80)) (fun _ h_ => h_.1))) hb); have n1_ := Aside0.mk (blk_below (g := gb995) (o := .cells #[.int .i64 a0_0, .int .u64 a0_1, .string a0_2, .slice A0_3 l0_3.length c0_3] 25 (0, 0)) (by (with_reducible repeat (first | refine blk_drewN ?_ _ | refine blk_drew ?_ | refine blk_alloc ?_ _)); refine blk_far ?_ NB995_1028.out _; (with_reducible repeat (first | refine blk_drewN ?_ _ | refine blk_drew ?_ | refine blk_alloc ?_ _)); refine blk_far ?_ NB995_1028.out _; (with_reducible repeat (first | refine blk_drewN ?_ _ | refine blk_drew ?_ | refine blk_alloc ?_ _)); refine blk_far ?_ NB995_1028.out _; (with_reducible repeat (first | refine blk_drewN ?_ _ | refine blk_drew ?_ | refine blk_alloc ?_ _)); refine blk_far ?_ NB995_1028.out _; (with_reducible repeat (first | refine blk_drewN ?_ _ | refine blk_drew ?_ | refine blk_alloc ?_ _)); exact BK995.out) hb); have n2_ := Aside0.mk (blk_below (g := gb1028) (o := .cells #[.int .i64 t1020, .int .u64 t1021, .string t1022, .slice Ao80 t1023.length co80] 25 (0, 0)) (by (with_reducible repeat (first | refine blk_drewN ?_ _ | refine blk_drew ?_ | refine blk_alloc ?_ _)); refine blk_put (cs := #[.int .i64 t1020, .int .u64 t1021, .string t1022, .slice none 0 0]) ?_ 3 _ rfl; (with_reducible repeat (first | refine blk_drewN ?_ _ | refine blk_drew ?_ | refine blk_alloc ?_ _)); refine blk_put (cs := #[.int .i64 t1020, .int .u64 t1021, .string (⟨#[]⟩ : ByteArray), .slice none 0 0]) ?_ 2 _ rfl; (with_reducible repeat (first | refine blk_drewN ?_ _ | refine blk_drew ?_ | refine blk_alloc ?_ _)); refine blk_put (cs := #[.int .i64 t1020, .int .u64 0, .string (⟨#[]⟩ : ByteArray), .slice none 0 0]) ?_ 1 _ rfl; (with_reducible repeat (first | refine blk_drewN ?_ _ | refine blk_drew ?_ | refine blk_alloc ?_ _)); refine blk_put (cs := #[.int .i64 0, .int .u64 0, .string (⟨#[]⟩ : ByteArray), .slice none 0 0]) ?_ 0 _ rfl; (with_reducible repeat (first | refine blk_drewN ?_ _ | refine blk_drew ?_ | refine blk_alloc ?_ _)); exact BK1028.out) hb); have n3_ := Aside0.mk (below_step (by repeat (first | (with_reducible first | exact HB.out | apply below_alloc | apply pw_below_drewN | apply below_drew1 | refine below_set ?_ GE995.out | refine below_set ?_ GE1028.out) | exact HB.out)) hb); clear HO1025; clear BK995; clear BK1028; clear HB; have HO1025 := n0_; have BK995 := n1_; have BK1028 := n2_; have HB := n3_; clear n0_ n1_ n2_ n3_; (try clear hb); (try clear hb2); (try clear hk); (try clear hi); have hcz82_0 : w81.cell? ⟨gb1028, 0, none⟩ = some (.int .i64 t1020) := (blk_cell BK1028.out 0).trans rfl; have hcz82_1 : w81.cell? ⟨gb1028, 1, none⟩ = some (.int .u64 t1021) := (blk_cell BK1028.out 1).trans rfl; have hcz82_2 : w81.cell? ⟨gb1028, 2, none⟩ = some (.string t1022) := (blk_cell BK1028.out 2).trans rfl; have hcz82_3 : w81.cell? ⟨gb1028, 3, none⟩ = some (.slice Ao80 t1023.length co80) := (blk_cell BK1028.out 3).trans rfl; have hfz82_0 := blk_frozen BK1028.out 0; have hfz82_1 := blk_frozen BK1028.out 1; have hfz82_2 := blk_frozen BK1028.out 2; have hfz82_3 := blk_frozen BK1028.out 3) | (go_at_call 21; (with_reducible refine (amqprim_Check.calls t1020 t1021 t1022 _ _ t1023 t1031 _ ?side1 ?side2 ?side3 A71.out).mono ?_); (case side1 => exact HT.out.below (by repeat (first | (with_reducible first | exact HB.out | apply below_alloc | apply pw_below_drewN | apply below_drew1 | refine below_set ?_ GE995.out | refine below_set ?_ GE1028.out) | exact HB.out))); (case side2 => repeat (first | exact (Kd.R_reads' HO1025.out).2.2 | (with_reducible refine Kd.C_alloc ?_ _) | (with_reducible refine Kd.C_drewN ?_ _) | (with_reducible refine Kd.C_drew ?_))); (case side3 => exact (Kd.R_reads' HO1025.out).2.1); rintro e w83 ⟨rfl, hb⟩; have n0_ := Aside0.mk (Kd.R_below (by (with_reducible repeat (first | apply Kd.R_alloc | apply Kd.R_drewN | apply Kd.R_drew)); exact HO1025.out) hb); have n1_ := Aside0.mk (blk_below (g := gb995) (o := .cells #[.int .i64 a0_0, .int .u64 a0_1, .string a0_2, .slice A0_3 l0_3.length c0_3] 25 (0, 0)) (by (with_reducible repeat (first | refine blk_drewN ?_ _ | refine blk_drew ?_ | refine blk_alloc ?_ _)); exact BK995.out) hb); have n2_ := Aside0.mk (blk_below (g := gb1028) (o := .cells #[.int .i64 t1020, .int .u64 t1021, .string t1022, .slice Ao80 t1023.length co80] 25 (0, 0)) (by (with_reducible repeat (first | refine blk_drewN ?_ _ | refine blk_drew ?_ | refine blk_alloc ?_ _)); exact BK1028.out) hb); have n3_ := Aside0.mk (below_step (by repeat (first | (with_reducible first | exact HB.out | apply below_alloc | apply pw_below_drewN | apply below_drew1 | refine below_set ?_ GE995.out | refine below_set ?_ GE1028.out) | exact HB.out)) hb); clear HO1025; clear BK995; clear BK1028; clear HB; have HO1025 := n0_; have BK995 := n1_; have BK1028 := n2_; have HB := n3_; clear n0_ n1_ n2_ n3_; (try clear hb); (try clear hb2); (try clear hk); (try clear hi)))
                  go_ret
                  exact ⟨by first | rfl | (simp [errW_none, errW_some] <;> rfl) | (simp [*, errW_none, errW_some] <;> rfl), by repeat (first | (with_reducible first | exact HB.out | apply below_alloc | apply pw_below_drewN | apply below_drew1 | refine below_set ?_ GE995.out | refine below_set ?_ GE1028.out) | exact HB.out)⟩
                 ·rw [if_neg c74] at H
                  exact absurd H (by simp)
                ·rw [if_neg c73] at H
                 exact absurd H (by simp)
               ·rw [if_neg c72] at H
                exact absurd H (by simp)
              ·rw [if_neg c70] at H
               exact absurd H (by simp)
             ·rw [if_neg c69] at H
              exact absurd H (by simp)
            ·rw [if_neg c67] at H
             have c67b0 : (t1027 == 0) = false := beq_eq_false_iff_ne.mpr c67
             have c67b1 : (t1027 != 0) = true := bne_iff_ne.mpr c67
             obtain rfl := Option.some.inj H
             go_wp2_with (first | ((with_reducible refine gate_callee (f := 37) rfl ?_); refine goesL_ (some 129) rfl rfl Tryd.func37 (by kernel_rfl) rfl #[.int .i64 a2, .string a1] rfl (by (try simp only [List.map_toArray, List.map_cons, List.map_nil]); first | done | rfl | (simp only [List.length_drop, List.length_take]; rfl)) ?_; (with_reducible refine (amqprim_Get.calls kj61 a2 a1 t1020 t1021 t1022 t1023 t1026 t1027 _ ?side1 A66.out).mono ?_); (case side1 => exact HT.out.below (by repeat (first | (with_reducible first | exact HB.out | apply below_alloc | apply pw_below_drewN | apply below_drew1 | refine below_set ?_ GE995.out) | exact HB.out))); rintro e w84 ⟨v1024, rfl, ho0, hb⟩; refine ⟨_, rfl, ?_⟩; have n0_ := Aside0.mk (Kd.R_lower (Kd.R_newB ho0 (g := gb995) (o := .cells #[.int .i64 a0_0, .int .u64 a0_1, .string a0_2, .slice A0_3 l0_3.length c0_3] 25 (0, 0)) (by (with_reducible repeat (first | refine blk_drewN ?_ _ | refine blk_drew ?_ | refine blk_alloc ?_ _)); exact BK995.out)) (below_size (by repeat (first | (with_reducible first | exact HB.out | apply below_alloc | apply pw_below_drewN | apply below_drew1 | refine below_set ?_ GE995.out) | exact HB.out)))); have n1_ := Aside0.mk (blk_below (g := gb995) (o := .cells #[.int .i64 a0_0, .int .u64 a0_1, .string a0_2, .slice A0_3 l0_3.length c0_3] 25 (0, 0)) (by (with_reducible repeat (first | refine blk_drewN ?_ _ | refine blk_drew ?_ | refine blk_alloc ?_ _)); exact BK995.out) hb); have n2_ := Aside0.mk (below_step (by repeat (first | (with_reducible first | exact HB.out | apply below_alloc | apply pw_below_drewN | apply below_drew1 | refine below_set ?_ GE995.out) | exact HB.out)) hb); clear BK995; clear HB; have HO1025 := n0_; have BK995 := n1_; have HB := n2_; clear n0_ n1_ n2_; (try clear hb); (try clear hb2); (try clear hk); (try clear hi); (try clear ho0)) | ((with_reducible refine gate_dst (N := 17) rfl ?_); (try (refine gate_guard (by rfl) ?_; dsimp only)); refine box_event ?hg (N := 17) ?hd (cs := #[.int .i64 0, .int .u64 0, .string (⟨#[]⟩ : ByteArray), .slice none 0 0]) (t := 25) ?hr ?_; (case hd => rfl); (case hg => rfl); (case hr => first | (go_simp; done) | (go_simp; rfl)); intro gb1028 hg w85 hbox hb; have n0_ := Aside0.mk (Kd.R_below (Kd.R_elderB (by (with_reducible repeat (first | apply Kd.R_alloc | apply Kd.R_drewN | apply Kd.R_drew)); exact HO1025.out) gb1028 (Nat.le_of_eq hg.symm)) hb); have n1_ := Aside0.mk (blk_below (g := gb995) (o := .cells #[.int .i64 a0_0, .int .u64 a0_1, .string a0_2, .slice A0_3 l0_3.length c0_3] 25 (0, 0)) (by (with_reducible repeat (first | refine blk_drewN ?_ _ | refine blk_drew ?_ | refine blk_alloc ?_ _)); exact BK995.out) hb); have n2_ := Aside0.mk (below_step (by repeat (first | (with_reducible first | exact HB.out | apply below_alloc | apply pw_below_drewN | apply below_drew1 | refine below_set ?_ GE995.out) | exact HB.out)) hb); have n3_ := Aside0.mk (hbox); have n4_ := Aside0.mk ((by rw [hg]; exact (below_size (by repeat (first | (with_reducible first | exact HB.out | apply below_alloc | apply pw_below_drewN | apply below_drew1 | refine below_set ?_ GE995.out) | exact HB.out))) : w.heap.size ≤ gb1028)); have n5_ := Aside0.mk ((by rw [hg]; exact (below_size (by repeat (first | (with_reducible first | exact HB.out | apply below_alloc | apply pw_below_drewN | apply below_drew1 | refine below_set ?_ GE995.out) | exact HB.out))) : w.heap.size ≤ gb1028)); have n6_ := Aside0.mk ((by rw [hg]; exact Nat.ne_of_lt (blk_lt (g := gb995) (o := .cells #[.int .i64 a0_0, .int .u64 a0_1, .string a0_2, .slice A0_3 l0_3.length c0_3] 25 (0, 0)) (by (with_reducible repeat (first | refine blk_drewN ?_ _ | refine blk_drew ?_ | refine blk_alloc ?_ _)); exact BK995.out)) : gb995 ≠ gb1028)); have n7_ := Aside0.mk ((by rw [hg]; exact Nat.ne_of_gt (blk_lt (g := gb995) (o := .cells #[.int .i64 a0_0, .int .u64 a0_1, .string a0_2, .slice A0_3 l0_3.length c0_3] 25 (0, 0)) (by (with_reducible repeat (first | refine blk_drewN ?_ _ | refine blk_drew ?_ | refine blk_alloc ?_ _)); exact BK995.out)) : gb1028 ≠ gb995)); clear HO1025; clear BK995; clear HB; have HO1025 := n0_; have BK995 := n1_; have HB := n2_; have BK1028 := n3_; have GW1028 := n4_; have GE1028 := n5_; have NB995_1028 := n6_; have NB1028_995 := n7_; clear n0_ n1_ n2_ n3_ n4_ n5_ n6_ n7_; clear hb hbox hg; have hnb86 := NB1028_995.out; have hnc86 := NB995_1028.out; have hcz87_0 : w85.cell? ⟨gb1028, 0, none⟩ = some (.int .i64 0) := (blk_cell BK1028.out 0).trans rfl; have hcz87_1 : w85.cell? ⟨gb1028, 1, none⟩ = some (.int .u64 0) := (blk_cell BK1028.out 1).trans rfl; have hcz87_2 : w85.cell? ⟨gb1028, 2, none⟩ = some (.string (⟨#[]⟩ : ByteArray)) := (blk_cell BK1028.out 2).trans rfl; have hcz87_3 : w85.cell? ⟨gb1028, 3, none⟩ = some (.slice none 0 0) := (blk_cell BK1028.out 3).trans rfl; have hfz87_0 := blk_frozen BK1028.out 0; have hfz87_1 := blk_frozen BK1028.out 1; have hfz87_2 := blk_frozen BK1028.out 2; have hfz87_3 := blk_frozen BK1028.out 3; obtain ⟨Ao88, co88, eo88⟩ := Kd.R_slice HO1025.out; subst eo88))
             go_ret
             exact ⟨by first | rfl | (simp [errW_none, errW_some] <;> rfl) | (simp [*, errW_none, errW_some] <;> rfl), by repeat (first | (with_reducible first | exact HB.out | apply below_alloc | apply pw_below_drewN | apply below_drew1 | refine below_set ?_ GE995.out | refine below_set ?_ GE1028.out) | exact HB.out)⟩
  ·replace c5 := Bool.eq_false_iff.mpr c5
   subst c5
   have H1 : (none) = some r := by rw [if_neg (show ¬ (false = true) by decide)] at H; exact H
   clear H
   have H := H1
   clear H1
   exact absurd H (by simp)

end Go.Proofs.YtekpofpgkokoiaaDoor.Q
