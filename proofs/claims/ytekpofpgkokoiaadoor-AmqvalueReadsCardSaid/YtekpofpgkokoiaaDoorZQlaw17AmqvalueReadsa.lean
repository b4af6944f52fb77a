/- A part of this claim: what its theorem leans on. -/
import Derived.Test.YtekpofpgkokoiaaDoorZQ0
import Derived.Test.YtekpofpgkokoiaaDoorZQpolyglotkitaD
import Derived.Test.YtekpofpgkokoiaaDoorZQkitSameaD
import Derived.Test.YtekpofpgkokoiaaDoorZQlaw17livesaD
import Derived.Test.YtekpofpgkokoiaaDoorZQamqvalueaD
import Derived.Test.YtekpofpgkokoiaaDoorZQlaw17AmqvalueReadsaD
import Derived.Test.YtekpofpgkokoiaaDoorZQpolyglotkita
import Derived.Test.YtekpofpgkokoiaaDoorZQkitSamea
import Derived.Test.YtekpofpgkokoiaaDoorZQlaw17livesa
import Derived.Test.YtekpofpgkokoiaaDoorZQamqvaluea
import Derived.Test.YtekpofpgkokoiaaDoorZVj
namespace Go.Proofs.YtekpofpgkokoiaaDoor.Q
open Go.RowKit Go.Proofs.YtekpofpgkokoiaaDoor.M Go.Proofs.YtekpofpgkokoiaaDoorW.PrintWords Go.Proofs.YtekpofpgkokoiaaDoorW.PrintLast Go.Proofs.YtekpofpgkokoiaaDoorW.PrintMore
attribute [local go_sem] max2_int min2_int max_two min_two max_three min_three max_four min_four
set_option linter.unusedVariables false
set_option linter.unusedSimpArgs false
set_option maxHeartbeats 8000000 in
set_option maxRecDepth 100000 in
theorem polyglotlaw17_AmqvalueReads.calls (k : Nat) (a0 : ByteArray) (a1 : ByteArray) (a2 : Int) (a3 : Int) (r : Bool) (w : World) (hT : Tb w) (h : polyglotlaw17_AmqvalueReads.f k a0 a1 a2 a3 = some r) :
    Calls Tryd.prog 11 #[.string a0, .string a1, .int .i64 a2, .int .i64 a3] w fun e w' => e = .returned (.bool r) ∧ Below w.heap.size w w' := by
  have hu25 := Tryd.underlying25
  have HB := Aside0.mk (Below.refl w.heap.size w)
  have HT := Aside0.mk hT
  clear hT
  have H : ((polyglotlaw17_lives.f k).bind fun t1148 => (if t1148 = true then (if (a0.size : Int) > 200 then (polyglotlaw17_AmqvalueReads.j0 k a0 a1 a2 a3 true) else (polyglotlaw17_AmqvalueReads.j0 k a0 a1 a2 a3 (decide ((a1.size : Int) > 200)))) else (none))) = some r := h
  clear h
  replace H := Option.bind_eq_some_iff.mp H
  obtain ⟨t1148, A50, H⟩ := H
  replace H : (if t1148 = true then (if (a0.size : Int) > 200 then (polyglotlaw17_AmqvalueReads.j0 k a0 a1 a2 a3 true) else (polyglotlaw17_AmqvalueReads.j0 k a0 a1 a2 a3 (decide ((a1.size : Int) > 200)))) else (none)) = some r := H
  have A5 := Aside0.mk A50
  clear A50
  by_cases c6 : t1148 = true
  ·subst c6
   have H1 : (if (a0.size : Int) > 200 then (polyglotlaw17_AmqvalueReads.j0 k a0 a1 a2 a3 true) else (polyglotlaw17_AmqvalueReads.j0 k a0 a1 a2 a3 (decide ((a1.size : Int) > 200)))) = some r := by rw [if_pos rfl] at H; exact H
   clear H
   have H := H1
   clear H1
   have HC7 := Aside0.mk H
   clear H
   go_enter Tryd.func11, Tryd.ntmps11
   go_upto_region 3 with (first | ((with_reducible refine gate_callee (f := 27) rfl ?_); refine goesL_ (some 18) rfl rfl Tryd.func27 (by kernel_rfl) rfl #[] rfl (by (try simp only [List.map_toArray, List.map_cons, List.map_nil]); first | done | rfl | (simp only [List.length_drop, List.length_take]; rfl)) ?_; (with_reducible refine (polyglotlaw17_lives.calls k  true _ ?side1 A5.out).mono ?_); (case side1 => exact HT.out.below (by repeat (first | (with_reducible first | exact HB.out | apply below_alloc | apply pw_below_drewN | apply below_drew1) | exact HB.out))); rintro e w8 ⟨rfl, hb⟩; refine ⟨_, rfl, ?_⟩; have n0_ := Aside0.mk (below_step (by repeat (first | (with_reducible first | exact HB.out | apply below_alloc | apply pw_below_drewN | apply below_drew1) | exact HB.out)) hb); clear HB; have HB := n0_; clear n0_; (try clear hb); (try clear hb2); (try clear hk); (try clear hi)))
   (try simp only [Act.put, List.setIfInBounds_toArray, List.set_cons_zero, List.set_cons_succ])
   go_cut [27] (fun v27 wc => ∃ (kq : Nat) (x27_6 : Bool), v27 = .bool x27_6 ∧ Aside0 (polyglotlaw17_AmqvalueReads.j0 kq a0 a1 a2 a3 x27_6 = some r) ∧ Aside0 (kq ≤ k) ∧ Aside0 (Below w.heap.size w wc))
   case first =>
    have H := HC7.out
    clear HC7
    by_cases c9 : (a0.size : Int) > 200
    ·rw [if_pos c9] at H
     have c9b0 : decide (200 < (a0.size : Int)) = true := decide_eq_true c9
     have c9b1 : decide (200 < a0.size) = true := decide_eq_true (by omega)
     clear c9
     (first | rw [c9b0] | (simp only [i64_w, i32_w]; rw [c9b0]) | skip)
     have H' := Aside0.mk H
     clear H
     go_wp2
     go_meet
     case rel => exact ⟨_, (true), (by first | rfl | (simp; done) | (simp [*]; done)), H', ⟨by first | omega | exact Nat.le_refl _⟩, ⟨by repeat (first | (with_reducible first | exact HB.out | apply below_alloc | apply pw_below_drewN | apply below_drew1) | exact HB.out)⟩⟩
    ·rw [if_neg c9] at H
     have c9b0 : decide (200 < (a0.size : Int)) = false := decide_eq_false c9
     have c9b1 : decide (200 < a0.size) = false := decide_eq_false (by omega)
     clear c9
     (first | rw [c9b0] | (simp only [i64_w, i32_w]; rw [c9b0]) | skip)
     have H' := Aside0.mk H
     clear H
     go_wp2
     go_meet
     case rel => exact ⟨_, (decide ((a1.size : Int) > 200)), (by first | rfl | (simp; done) | (simp [*]; done)), H', ⟨by first | omega | exact Nat.le_refl _⟩, ⟨by repeat (first | (with_reducible first | exact HB.out | apply below_alloc | apply pw_below_drewN | apply below_drew1) | exact HB.out)⟩⟩
   case rest =>
    clear HC7
    try clear c1
    try clear c2
    try clear p2
    try clear c6
    try clear c9
    try clear c9b0
    try clear c9b1
    obtain ⟨kq, x27_6, rfl, HA, HJ6, HB⟩ := hcut
    cases kq with
    | zero => exact absurd HA.out (by simp [polyglotlaw17_AmqvalueReads.j0])
    | succ kj6 =>
     have H := HA.out
     clear HA
     simp only [polyglotlaw17_AmqvalueReads.j0] at H
     by_cases c10 : x27_6 = true
     ·subst c10
      have H1 : (some true) = some r := by rw [if_pos rfl] at H; exact H
      clear H
      have H := H1
      clear H1
      obtain rfl := Option.some.inj H
      go_wp2
      go_ret
      exact ⟨by first | rfl | (simp [errW_none, errW_some] <;> rfl) | (simp [*, errW_none, errW_some] <;> rfl), by repeat (first | (with_reducible first | exact HB.out | apply below_alloc | apply pw_below_drewN | apply below_drew1) | exact HB.out)⟩
     ·replace c10 := Bool.eq_false_iff.mpr c10
      subst c10
      have H1 : ((polyglotkit_Pick.f a2 32).bind fun t1149 => ((amqvalue_Read.f a0 t1149).bind fun bt1150 => (if bt1150.2.2.2.2.2 = 0 then (if bt1150.2.2.2.2.1 < 1 then (polyglotlaw17_AmqvalueReads.j1 kj6 a0 a1 t1149 a3 bt1150.2.2.2.2.1 true bt1150.1 bt1150.2.1 bt1150.2.2.1 bt1150.2.2.2.1) else (if bt1150.2.2.2.2.1 > (a0.size : Int) then (polyglotlaw17_AmqvalueReads.j1 kj6 a0 a1 t1149 a3 bt1150.2.2.2.2.1 true bt1150.1 bt1150.2.1 bt1150.2.2.1 bt1150.2.2.2.1) else ((amqvalue_Check.f bt1150.1 bt1150.2.1 bt1150.2.2.1 bt1150.2.2.2.1 t1149).bind fun t1160 => (if t1160 = 0 then ((amqvalue_Depth.f kj6 bt1150.1 bt1150.2.1 bt1150.2.2.1 bt1150.2.2.2.1).bind fun t1161 => (polyglotlaw17_AmqvalueReads.j1 kj6 a0 a1 t1149 a3 bt1150.2.2.2.2.1 (decide (t1161 > t1149)) bt1150.1 bt1150.2.1 bt1150.2.2.1 bt1150.2.2.2.1)) else (polyglotlaw17_AmqvalueReads.j1 kj6 a0 a1 t1149 a3 bt1150.2.2.2.2.1 true bt1150.1 bt1150.2.1 bt1150.2.2.1 bt1150.2.2.2.1))))) else (if bt1150.2.2.2.2.1 = 0 then ((polyglotkit_SameValue.f kj6 bt1150.1 bt1150.2.1 bt1150.2.2.1 bt1150.2.2.2.1 0 0 (⟨#[]⟩ : ByteArray) ([] : List (Vl))).bind fun t1159 => (some t1159)) else (none))))) = some r := by rw [if_neg (show ¬ (false = true) by decide)] at H; exact H
      clear H
      have H := H1
      clear H1
      replace H := Option.bind_eq_some_iff.mp H
      obtain ⟨t1149, A110, H⟩ := H
      replace H : ((amqvalue_Read.f a0 t1149).bind fun bt1150 => (if bt1150.2.2.2.2.2 = 0 then (if bt1150.2.2.2.2.1 < 1 then (polyglotlaw17_AmqvalueReads.j1 kj6 a0 a1 t1149 a3 bt1150.2.2.2.2.1 true bt1150.1 bt1150.2.1 bt1150.2.2.1 bt1150.2.2.2.1) else (if bt1150.2.2.2.2.1 > (a0.size : Int) then (polyglotlaw17_AmqvalueReads.j1 kj6 a0 a1 t1149 a3 bt1150.2.2.2.2.1 true bt1150.1 bt1150.2.1 bt1150.2.2.1 bt1150.2.2.2.1) else ((amqvalue_Check.f bt1150.1 bt1150.2.1 bt1150.2.2.1 bt1150.2.2.2.1 t1149).bind fun t1160 => (if t1160 = 0 then ((amqvalue_Depth.f kj6 bt1150.1 bt1150.2.1 bt1150.2.2.1 bt1150.2.2.2.1).bind fun t1161 => (polyglotlaw17_AmqvalueReads.j1 kj6 a0 a1 t1149 a3 bt1150.2.2.2.2.1 (decide (t1161 > t1149)) bt1150.1 bt1150.2.1 bt1150.2.2.1 bt1150.2.2.2.1)) else (polyglotlaw17_AmqvalueReads.j1 kj6 a0 a1 t1149 a3 bt1150.2.2.2.2.1 true bt1150.1 bt1150.2.1 bt1150.2.2.1 bt1150.2.2.2.1))))) else (if bt1150.2.2.2.2.1 = 0 then ((polyglotkit_SameValue.f kj6 bt1150.1 bt1150.2.1 bt1150.2.2.1 bt1150.2.2.2.1 0 0 (⟨#[]⟩ : ByteArray) ([] : List (Vl))).bind fun t1159 => (some t1159)) else (none)))) = some r := H
      have A11 := Aside0.mk A110
      clear A110
      replace H := Option.bind_eq_some_iff.mp H
      obtain ⟨⟨t1150, t1151, t1152, t1153, t1156, t1157⟩, A120, H⟩ := H
      replace H : (if t1157 = 0 then (if t1156 < 1 then (polyglotlaw17_AmqvalueReads.j1 kj6 a0 a1 t1149 a3 t1156 true t1150 t1151 t1152 t1153) else (if t1156 > (a0.size : Int) then (polyglotlaw17_AmqvalueReads.j1 kj6 a0 a1 t1149 a3 t1156 true t1150 t1151 t1152 t1153) else ((amqvalue_Check.f t1150 t1151 t1152 t1153 t1149).bind fun t1160 => (if t1160 = 0 then ((amqvalue_Depth.f kj6 t1150 t1151 t1152 t1153).bind fun t1161 => (polyglotlaw17_AmqvalueReads.j1 kj6 a0 a1 t1149 a3 t1156 (decide (t1161 > t1149)) t1150 t1151 t1152 t1153)) else (polyglotlaw17_AmqvalueReads.j1 kj6 a0 a1 t1149 a3 t1156 true t1150 t1151 t1152 t1153))))) else (if t1156 = 0 then ((polyglotkit_SameValue.f kj6 t1150 t1151 t1152 t1153 0 0 (⟨#[]⟩ : ByteArray) ([] : List (Vl))).bind fun t1159 => (some t1159)) else (none))) = some r := H
      have A12 := Aside0.mk A120
      clear A120
      by_cases c13 : t1157 = 0
      ·rw [if_pos c13] at H
       have c13b0 : (t1157 == 0) = true := beq_iff_eq.mpr c13
       have c13b1 : (t1157 != 0) = false := bne_eq_false_iff_eq.mpr c13
       clear c13
       have HC14 := Aside0.mk H
       clear H
       go_upto_region 9 with (first | ((with_reducible refine gate_callee (f := 22) rfl ?_); refine goesL_ (some 29) rfl rfl Tryd.func22 (by kernel_rfl) rfl #[.int .i64 a2, .int .i64 32] rfl (by (try simp only [List.map_toArray, List.map_cons, List.map_nil]); first | done | rfl | (simp only [List.length_drop, List.length_take]; rfl)) ?_; (with_reducible refine (polyglotkit_Pick.calls a2 32 t1149 _ A11.out).mono ?_); rintro e w' ⟨rfl, ⟨nd, rfl⟩⟩; refine ⟨_, rfl, ?_⟩; (try (rw [drewN_self wc]; generalize hq_ : World.drewN wc _ = wc; have n0_ : Aside0 (Below w.heap.size w wc) := ⟨by rw [← hq_]; exact (by repeat (first | (with_reducible first | exact HB.out | apply below_alloc | apply pw_below_drewN | apply below_drew1) | exact HB.out))⟩; clear HB hq_; have HB := n0_; clear n0_))) | ((with_reducible refine gate_callee (f := 30) rfl ?_); refine goesL_ (some 33) rfl rfl Tryd.func30 (by kernel_rfl) rfl #[.string a0, .int .i64 t1149] rfl (by (try simp only [List.map_toArray, List.map_cons, List.map_nil]); first | done | rfl | (simp only [List.length_drop, List.length_take]; rfl)) ?_; (with_reducible refine (amqvalue_Read.calls a0 t1149 t1150 t1151 t1152 t1153 t1156 t1157 _ ?side1 A12.out).mono ?_); (case side1 => exact HT.out.below (by repeat (first | (with_reducible first | exact HB.out | apply below_alloc | apply pw_below_drewN | apply below_drew1) | exact HB.out))); rintro e w15 ⟨v1154, rfl, ho0, hb⟩; refine ⟨_, rfl, ?_⟩; have n0_ := Aside0.mk (Kd.R_lower ho0 (below_size (by repeat (first | (with_reducible first | exact HB.out | apply below_alloc | apply pw_below_drewN | apply below_drew1) | exact HB.out)))); have n1_ := Aside0.mk (below_step (by repeat (first | (with_reducible first | exact HB.out | apply below_alloc | apply pw_below_drewN | apply below_drew1) | exact HB.out)) hb); clear HB; have HO1155 := n0_; have HB := n1_; clear n0_ n1_; (try clear hb); (try clear hb2); (try clear hk); (try clear hi); (try clear ho0)) | ((with_reducible refine gate_dst (N := 9) rfl ?_); (try (refine gate_guard (by rfl) ?_; dsimp only)); refine box_event ?hg (N := 9) ?hd (cs := #[.int .i64 0, .int .u64 0, .string (⟨#[]⟩ : ByteArray), .slice none 0 0]) (t := 25) ?hr ?_; (case hd => rfl); (case hg => rfl); (case hr => first | (go_simp; done) | (go_simp; rfl)); intro gb1158 hg w16 hbox hb; have n0_ := Aside0.mk (Kd.R_below (Kd.R_elderB (by (with_reducible repeat (first | apply Kd.R_alloc | apply Kd.R_drewN | apply Kd.R_drew)); exact HO1155.out) gb1158 (Nat.le_of_eq hg.symm)) hb); have n1_ := Aside0.mk (below_step (by repeat (first | (with_reducible first | exact HB.out | apply below_alloc | apply pw_below_drewN | apply below_drew1) | exact HB.out)) hb); have n2_ := Aside0.mk (hbox); have n3_ := Aside0.mk ((by rw [hg]; exact (below_size (by repeat (first | (with_reducible first | exact HB.out | apply below_alloc | apply pw_below_drewN | apply below_drew1) | exact HB.out))) : w.heap.size ≤ gb1158)); have n4_ := Aside0.mk ((by rw [hg]; exact (below_size (by repeat (first | (with_reducible first | exact HB.out | apply below_alloc | apply pw_below_drewN | apply below_drew1) | exact HB.out))) : w.heap.size ≤ gb1158)); clear HO1155; clear HB; have HO1155 := n0_; have HB := n1_; have BK1158 := n2_; have GW1158 := n3_; have GE1158 := n4_; clear n0_ n1_ n2_ n3_ n4_; clear hb hbox hg; have hcz17_0 : w16.cell? ⟨gb1158, 0, none⟩ = some (.int .i64 0) := (blk_cell BK1158.out 0).trans rfl; have hcz17_1 : w16.cell? ⟨gb1158, 1, none⟩ = some (.int .u64 0) := (blk_cell BK1158.out 1).trans rfl; have hcz17_2 : w16.cell? ⟨gb1158, 2, none⟩ = some (.string (⟨#[]⟩ : ByteArray)) := (blk_cell BK1158.out 2).trans rfl; have hcz17_3 : w16.cell? ⟨gb1158, 3, none⟩ = some (.slice none 0 0) := (blk_cell BK1158.out 3).trans rfl; have hfz17_0 := blk_frozen BK1158.out 0; have hfz17_1 := blk_frozen BK1158.out 1; have hfz17_2 := blk_frozen BK1158.out 2; have hfz17_3 := blk_frozen BK1158.out 3; obtain ⟨Ao18, co18, eo18⟩ := Kd.R_slice HO1155.out; subst eo18))
       (try simp only [Act.put, List.setIfInBounds_toArray, List.set_cons_zero, List.set_cons_succ])
       go_cut [65] (fun v65 wc => ∃ (kq : Nat) (x65_13 : Bool), v65 = .bool x65_13 ∧ Aside0 (polyglotlaw17_AmqvalueReads.j1 kq a0 a1 t1149 a3 t1156 x65_13 t1150 t1151 t1152 t1153 = some r) ∧ Aside0 (kq ≤ kj6) ∧ Aside0 (Kd.R kV 25 wc w.heap.size (fun k_ => k_ ≠ gb1158) (.slice Ao18 t1153.length co18) t1153) ∧ Aside0 (wc.heap[gb1158]? = some (.cells #[.int .i64 t1150, .int .u64 t1151, .string t1152, (.slice Ao18 t1153.length co18)] 25 (0, 0))) ∧ Aside0 (Below w.heap.size w wc))
       case first =>
        have H := HC14.out
        clear HC14
        by_cases c19 : t1156 < 1
        ·rw [if_pos c19] at H
         have c19b0 : decide (t1156 < 1) = true := decide_eq_true c19
         clear c19
         (first | rw [c19b0] | (simp only [i64_w, i32_w]; rw [c19b0]) | skip)
         have H' := Aside0.mk H
         clear H
         go_wp2
         go_meet
         case rel => exact ⟨_, (true), (by first | rfl | (simp; done) | (simp [*]; done)), H', ⟨by have := HJ6.out; first | omega | exact Nat.le_refl _⟩, ⟨by (with_reducible repeat (first | apply Kd.R_alloc | apply Kd.R_drewN | apply Kd.R_drew)); exact Kd.R_mono (Kd.R_far (p := ⟨gb1158, 3, none⟩) (Kd.R_far (p := ⟨gb1158, 2, none⟩) (Kd.R_far (p := ⟨gb1158, 1, none⟩) (Kd.R_far (p := ⟨gb1158, 0, none⟩) (Kd.R_mono HO1155.out (fun k_ hk => (⟨hk, hk.2⟩ : _ ∧ k_ ≠ gb1158))) (fun _ hk => hk.2) (.int .i64 t1150)) (fun _ hk => hk.2) (.int .u64 t1151)) (fun _ hk => hk.2) (.string t1152)) (fun _ hk => hk.2) (.slice Ao18 t1153.length co18)) (fun _ hk => hk.1.2)⟩, ⟨by (with_reducible repeat (first | refine blk_drewN ?_ _ | refine blk_drew ?_ | refine blk_alloc ?_ _)); refine blk_put (cs := #[.int .i64 t1150, .int .u64 t1151, .string t1152, .slice none 0 0]) ?_ 3 _ rfl; (with_reducible repeat (first | refine blk_drewN ?_ _ | refine blk_drew ?_ | refine blk_alloc ?_ _)); refine blk_put (cs := #[.int .i64 t1150, .int .u64 t1151, .string (⟨#[]⟩ : ByteArray), .slice none 0 0]) ?_ 2 _ rfl; (with_reducible repeat (first | refine blk_drewN ?_ _ | refine blk_drew ?_ | refine blk_alloc ?_ _)); refine blk_put (cs := #[.int .i64 t1150, .int .u64 0, .string (⟨#[]⟩ : ByteArray), .slice none 0 0]) ?_ 1 _ rfl; (with_reducible repeat (first | refine blk_drewN ?_ _ | refine blk_drew ?_ | refine blk_alloc ?_ _)); refine blk_put (cs := #[.int .i64 0, .int .u64 0, .string (⟨#[]⟩ : ByteArray), .slice none 0 0]) ?_ 0 _ rfl; (with_reducible repeat (first | refine blk_drewN ?_ _ | refine blk_drew ?_ | refine blk_alloc ?_ _)); exact BK1158.out⟩, ⟨by repeat (first | (with_reducible first | exact HB.out | apply below_alloc | apply pw_below_drewN | apply below_drew1 | refine below_set ?_ GE1158.out) | exact HB.out)⟩⟩
        ·rw [if_neg c19] at H
         have c19b0 : decide (t1156 < 1) = false := decide_eq_false c19
         clear c19
         (first | rw [c19b0] | (simp only [i64_w, i32_w]; rw [c19b0]) | skip)
         by_cases c20 : t1156 > (a0.size : Int)
         ·rw [if_pos c20] at H
          have c20b0 : decide ((a0.size : Int) < t1156) = true := decide_eq_true c20
          clear c20
          have H' := Aside0.mk H
          clear H
          go_wp2
          go_meet
          case rel => exact ⟨_, (true), (by first | rfl | (simp; done) | (simp [*]; done)), H', ⟨by have := HJ6.out; first | omega | exact Nat.le_refl _⟩, ⟨by (with_reducible repeat (first | apply Kd.R_alloc | apply Kd.R_drewN | apply Kd.R_drew)); exact Kd.R_mono (Kd.R_far (p := ⟨gb1158, 3, none⟩) (Kd.R_far (p := ⟨gb1158, 2, none⟩) (Kd.R_far (p := ⟨gb1158, 1, none⟩) (Kd.R_far (p := ⟨gb1158, 0, none⟩) (Kd.R_mono HO1155.out (fun k_ hk => (⟨hk, hk.2⟩ : _ ∧ k_ ≠ gb1158))) (fun _ hk => hk.2) (.int .i64 t1150)) (fun _ hk => hk.2) (.int .u64 t1151)) (fun _ hk => hk.2) (.string t1152)) (fun _ hk => hk.2) (.slice Ao18 t1153.length co18)) (fun _ hk => hk.1.2)⟩, ⟨by (with_reducible repeat (first | refine blk_drewN ?_ _ | refine blk_drew ?_ | refine blk_alloc ?_ _)); refine blk_put (cs := #[.int .i64 t1150, .int .u64 t1151, .string t1152, .slice none 0 0]) ?_ 3 _ rfl; (with_reducible repeat (first | refine blk_drewN ?_ _ | refine blk_drew ?_ | refine blk_alloc ?_ _)); refine blk_put (cs := #[.int .i64 t1150, .int .u64 t1151, .string (⟨#[]⟩ : ByteArray), .slice none 0 0]) ?_ 2 _ rfl; (with_reducible repeat (first | refine blk_drewN ?_ _ | refine blk_drew ?_ | refine blk_alloc ?_ _)); refine blk_put (cs := #[.int .i64 t1150, .int .u64 0, .string (⟨#[]⟩ : ByteArray), .slice none 0 0]) ?_ 1 _ rfl; (with_reducible repeat (first | refine blk_drewN ?_ _ | refine blk_drew ?_ | refine blk_alloc ?_ _)); refine blk_put (cs := #[.int .i64 0, .int .u64 0, .string (⟨#[]⟩ : ByteArray), .slice none 0 0]) ?_ 0 _ rfl; (with_reducible repeat (first | refine blk_drewN ?_ _ | refine blk_drew ?_ | refine blk_alloc ?_ _)); exact BK1158.out⟩, ⟨by repeat (first | (with_reducible first | exact HB.out | apply below_alloc | apply pw_below_drewN | apply below_drew1 | refine below_set ?_ GE1158.out) | exact HB.out)⟩⟩
         ·rw [if_neg c20] at H
          have c20b0 : decide ((a0.size : Int) < t1156) = false := decide_eq_false c20
          clear c20
          replace H := Option.bind_eq_some_iff.mp H
          obtain ⟨t1160, A210, H⟩ := H
          replace H : (if t1160 = 0 then ((amqvalue_Depth.f kj6 t1150 t1151 t1152 t1153).bind fun t1161 => (polyglotlaw17_AmqvalueReads.j1 kj6 a0 a1 t1149 a3 t1156 (decide (t1161 > t1149)) t1150 t1151 t1152 t1153)) else (polyglotlaw17_AmqvalueReads.j1 kj6 a0 a1 t1149 a3 t1156 true t1150 t1151 t1152 t1153)) = some r := H
          have A21 := Aside0.mk A210
          clear A210
          by_cases c22 : t1160 = 0
          ·rw [if_pos c22] at H
           have c22b0 : (t1160 == 0) = true := beq_iff_eq.mpr c22
           have c22b1 : (t1160 != 0) = false := bne_eq_false_iff_eq.mpr c22
           clear c22
           replace H := Option.bind_eq_some_iff.mp H
           obtain ⟨t1161, A230, H⟩ := H
           replace H : (polyglotlaw17_AmqvalueReads.j1 kj6 a0 a1 t1149 a3 t1156 (decide (t1161 > t1149)) t1150 t1151 t1152 t1153) = some r := H
           have A23 := Aside0.mk A230
           clear A230
           have H' := Aside0.mk H
           clear H
           have hcz24_0 : w16.cell? ⟨gb1158, 0, none⟩ = some (.int .i64 0) := (blk_cell BK1158.out 0).trans rfl
           have hcz24_1 : w16.cell? ⟨gb1158, 1, none⟩ = some (.int .u64 0) := (blk_cell BK1158.out 1).trans rfl
           have hcz24_2 : w16.cell? ⟨gb1158, 2, none⟩ = some (.string (⟨#[]⟩ : ByteArray)) := (blk_cell BK1158.out 2).trans rfl
           have hcz24_3 : w16.cell? ⟨gb1158, 3, none⟩ = some (.slice none 0 0) := (blk_cell BK1158.out 3).trans rfl
           have hfz24_0 := blk_frozen BK1158.out 0
           have hfz24_1 := blk_frozen BK1158.out 1
           have hfz24_2 := blk_frozen BK1158.out 2
           have hfz24_3 := blk_frozen BK1158.out 3
           go_wp2_with (first | (go_at_call 49; (with_reducible refine (amqvalue_Check.calls t1150 t1151 t1152 _ _ t1153 t1149 t1160 _ ?side1 ?side2 ?side3 A21.out).mono ?_); (case side1 => exact HT.out.below (by repeat (first | (with_reducible first | exact HB.out | apply below_alloc | apply pw_below_drewN | apply below_drew1 | refine below_set ?_ GE1158.out) | exact HB.out))); (case side2 => refine (Kd.R_reads' (e := 25) (base := w.heap.size) (ok := fun k_ => (True ∧ k_ ≠ gb1158)) (n := t1153.length) (c := co18) ?_).2.2; exact (by (with_reducible repeat (first | apply Kd.R_alloc | apply Kd.R_drewN | apply Kd.R_drew)); exact (Kd.R_mono (Kd.R_far (p := ⟨gb1158, 3, none⟩) (Kd.R_far (p := ⟨gb1158, 2, none⟩) (Kd.R_far (p := ⟨gb1158, 1, none⟩) (Kd.R_far (p := ⟨gb1158, 0, none⟩) (Kd.R_mono HO1155.out (fun k_ hk => (⟨hk, hk.2⟩ : _ ∧ k_ ≠ gb1158))) (fun _ hk => hk.2) (.int .i64 t1150)) (fun _ hk => hk.2) (.int .u64 t1151)) (fun _ hk => hk.2) (.string t1152)) (fun _ hk => hk.2) (.slice Ao18 t1153.length co18)) (fun _ h_ => h_.1)))); (case side3 => exact (Kd.R_reads' HO1155.out).2.1); rintro e w25 ⟨rfl, hb⟩; have n0_ := Aside0.mk (Kd.R_below (by (with_reducible repeat (first | apply Kd.R_alloc | apply Kd.R_drewN | apply Kd.R_drew)); exact (Kd.R_mono (Kd.R_far (p := ⟨gb1158, 3, none⟩) (Kd.R_far (p := ⟨gb1158, 2, none⟩) (Kd.R_far (p := ⟨gb1158, 1, none⟩) (Kd.R_far (p := ⟨gb1158, 0, none⟩) (Kd.R_mono HO1155.out (fun k_ hk => (⟨hk, hk.2⟩ : _ ∧ k_ ≠ gb1158))) (fun _ hk => hk.2) (.int .i64 t1150)) (fun _ hk => hk.2) (.int .u64 t1151)) (fun _ hk => hk.2) (.string t1152)) (fun _ hk => hk.2) (.slice Ao18 t1153.length co18)) (fun _ h_ => h_.1))) hb); have n1_ := Aside0.mk (blk_below (g := gb1158) (o := .cells #[.int .i64 t1150, .int .u64 t1151, .string t1152, .slice Ao18 t1153.length co18] 25 (0, 0)) (by (with_reducible repeat (first | refine blk_drewN ?_ _ | refine blk_drew ?_ | refine blk_alloc ?_ _)); refine blk_put (cs := #[.int .i64 t1150, .int .u64 t1151, .string t1152, .slice none 0 0]) ?_ 3 _ rfl; (with_reducible repeat (first | refine blk_drewN ?_ _ | refine blk_drew ?_ | refine blk_alloc ?_ _)); refine blk_put (cs := #[.int .i64 t1150, .int .u64 t1151, .string (⟨#[]⟩ : ByteArray), .slice none 0 0]) ?_ 2 _ rfl; (with_reducible repeat (first | refine blk_drewN ?_ _ | refine blk_drew ?_ | refine blk_alloc ?_ _)); refine blk_put (cs := #[.int .i64 t1150, .int .u64 0, .string (⟨#[]⟩ : ByteArray), .slice none 0 0]) ?_ 1 _ rfl; (with_reducible repeat (first | refine blk_drewN ?_ _ | refine blk_drew ?_ | refine blk_alloc ?_ _)); refine blk_put (cs := #[.int .i64 0, .int .u64 0, .string (⟨#[]⟩ : ByteArray), .slice none 0 0]) ?_ 0 _ rfl; (with_reducible repeat (first | refine blk_drewN ?_ _ | refine blk_drew ?_ | refine blk_alloc ?_ _)); exact BK1158.out) hb); have n2_ := Aside0.mk (below_step (by repeat (first | (with_reducible first | exact HB.out | apply below_alloc | apply pw_below_drewN | apply below_drew1 | refine below_set ?_ GE1158.out) | exact HB.out)) hb); clear HO1155; clear BK1158; clear HB; have HO1155 := n0_; have BK1158 := n1_; have HB := n2_; clear n0_ n1_ n2_; (try clear hb); (try clear hb2); (try clear hk); (try clear hi); have hcz26_0 : w25.cell? ⟨gb1158, 0, none⟩ = some (.int .i64 t1150) := (blk_cell BK1158.out 0).trans rfl; have hcz26_1 : w25.cell? ⟨gb1158, 1, none⟩ = some (.int .u64 t1151) := (blk_cell BK1158.out 1).trans rfl; have hcz26_2 : w25.cell? ⟨gb1158, 2, none⟩ = some (.string t1152) := (blk_cell BK1158.out 2).trans rfl; have hcz26_3 : w25.cell? ⟨gb1158, 3, none⟩ = some (.slice Ao18 t1153.length co18) := (blk_cell BK1158.out 3).trans rfl; have hfz26_0 := blk_frozen BK1158.out 0; have hfz26_1 := blk_frozen BK1158.out 1; have hfz26_2 := blk_frozen BK1158.out 2; have hfz26_3 := blk_frozen BK1158.out 3) | (go_at_call 50; (with_reducible refine (amqvalue_Depth.calls kj6 t1150 t1151 t1152 _ _ t1153 t1161 _ ?side1 ?side2 A23.out).mono ?_); (case side1 => repeat (first | exact (Kd.R_reads' HO1155.out).2.2 | (with_reducible refine Kd.C_alloc ?_ _) | (with_reducible refine Kd.C_drewN ?_ _) | (with_reducible refine Kd.C_drew ?_))); (case side2 => exact (Kd.R_reads' HO1155.out).2.1); rintro e w27 ⟨rfl, hb⟩; have n0_ := Aside0.mk (Kd.R_below (by (with_reducible repeat (first | apply Kd.R_alloc | apply Kd.R_drewN | apply Kd.R_drew)); exact HO1155.out) hb); have n1_ := Aside0.mk (blk_below (g := gb1158) (o := .cells #[.int .i64 t1150, .int .u64 t1151, .string t1152, .slice Ao18 t1153.length co18] 25 (0, 0)) (by (with_reducible repeat (first | refine blk_drewN ?_ _ | refine blk_drew ?_ | refine blk_alloc ?_ _)); exact BK1158.out) hb); have n2_ := Aside0.mk (below_step (by repeat (first | (with_reducible first | exact HB.out | apply below_alloc | apply pw_below_drewN | apply below_drew1 | refine below_set ?_ GE1158.out) | exact HB.out)) hb); clear HO1155; clear BK1158; clear HB; have HO1155 := n0_; have BK1158 := n1_; have HB := n2_; clear n0_ n1_ n2_; (try clear hb); (try clear hb2); (try clear hk); (try clear hi)))
           go_meet
           case rel => exact ⟨_, (decide (t1161 > t1149)), (by first | rfl | (simp; done) | (simp [*]; done)), H', ⟨by have := HJ6.out; first | omega | exact Nat.le_refl _⟩, ⟨by (with_reducible repeat (first | apply Kd.R_alloc | apply Kd.R_drewN | apply Kd.R_drew)); exact Kd.R_mono HO1155.out (fun _ hk => hk.2)⟩, ⟨by (with_reducible repeat (first | refine blk_drewN ?_ _ | refine blk_drew ?_ | refine blk_alloc ?_ _)); exact BK1158.out⟩, ⟨by repeat (first | (with_reducible first | exact HB.out | apply below_alloc | apply pw_below_drewN | apply below_drew1 | refine below_set ?_ GE1158.out) | exact HB.out)⟩⟩
          ·rw [if_neg c22] at H
           have c22b0 : (t1160 == 0) = false := beq_eq_false_iff_ne.mpr c22
           have c22b1 : (t1160 != 0) = true := bne_iff_ne.mpr c22
           have H' := Aside0.mk H
           clear H
           have hcz28_0 : w16.cell? ⟨gb1158, 0, none⟩ = some (.int .i64 0) := (blk_cell BK1158.out 0).trans rfl
           have hcz28_1 : w16.cell? ⟨gb1158, 1, none⟩ = some (.int .u64 0) := (blk_cell BK1158.out 1).trans rfl
           have hcz28_2 : w16.cell? ⟨gb1158, 2, none⟩ = some (.string (⟨#[]⟩ : ByteArray)) := (blk_cell BK1158.out 2).trans rfl
           have hcz28_3 : w16.cell? ⟨gb1158, 3, none⟩ = some (.slice none 0 0) := (blk_cell BK1158.out 3).trans rfl
           have hfz28_0 := blk_frozen BK1158.out 0
           have hfz28_1 := blk_frozen BK1158.out 1
           have hfz28_2 := blk_frozen BK1158.out 2
           have hfz28_3 := blk_frozen BK1158.out 3
           go_wp2_with (first | (go_at_call 49; (with_reducible refine (amqvalue_Check.calls t1150 t1151 t1152 _ _ t1153 t1149 t1160 _ ?side1 ?side2 ?side3 A21.out).mono ?_); (case side1 => exact HT.out.below (by repeat (first | (with_reducible first | exact HB.out | apply below_alloc | apply pw_below_drewN | apply below_drew1 | refine below_set ?_ GE1158.out) | exact HB.out))); (case side2 => refine (Kd.R_reads' (e := 25) (base := w.heap.size) (ok := fun k_ => (True ∧ k_ ≠ gb1158)) (n := t1153.length) (c := co18) ?_).2.2; exact (by (with_reducible repeat (first | apply Kd.R_alloc | apply Kd.R_drewN | apply Kd.R_drew)); exact (Kd.R_mono (Kd.R_far (p := ⟨gb1158, 3, none⟩) (Kd.R_far (p := ⟨gb1158, 2, none⟩) (Kd.R_far (p := ⟨gb1158, 1, none⟩) (Kd.R_far (p := ⟨gb1158, 0, none⟩) (Kd.R_mono HO1155.out (fun k_ hk => (⟨hk, hk.2⟩ : _ ∧ k_ ≠ gb1158))) (fun _ hk => hk.2) (.int .i64 t1150)) (fun _ hk => hk.2) (.int .u64 t1151)) (fun _ hk => hk.2) (.string t1152)) (fun _ hk => hk.2) (.slice Ao18 t1153.length co18)) (fun _ h_ => h_.1)))); (case side3 => exact (Kd.R_reads' HO1155.out).2.1); rintro e w29 ⟨rfl, hb⟩; have n0_ := Aside0.mk (Kd.R_below (by (with_reducible repeat (first | apply Kd.R_alloc | apply Kd.R_drewN | apply Kd.R_drew)); exact (Kd.R_mono (Kd.R_far (p := ⟨gb1158, 3, none⟩) (Kd.R_far (p := ⟨gb1158, 2, none⟩) (Kd.R_far (p := ⟨gb1158, 1, none⟩) (Kd.R_far (p := ⟨gb1158, 0, none⟩) (Kd.R_mono HO1155.out (fun k_ hk => (⟨hk, hk.2⟩ : _ ∧ k_ ≠ gb1158))) (fun _ hk => hk.2) (.int .i64 t1150)) (fun _ hk => hk.2) (.int .u64 t1151)) (fun _ hk => hk.2) (.string t1152)) (fun _ hk => hk.2) (.slice Ao18 t1153.length co18)) (fun _ h_ => h_.1))) hb); have n1_ := Aside0.mk (blk_below (g := gb1158) (o := .cells #[.int .i64 t1150, .int .u64 t1151, .string t1152, .slice Ao18 t1153.length co18] 25 (0, 0)) (by (with_reducible repeat (first | refine blk_drewN ?_ _ | refine blk_drew ?_ | refine blk_alloc ?_ _)); refine blk_put (cs := #[.int .i64 t1150, .int .u64 t1151, .string t1152, .slice none 0 0]) ?_ 3 _ rfl; (with_reducible repeat (first | refine blk_drewN ?_ _ | refine blk_drew ?_ | refine blk_alloc ?_ _)); refine blk_put (cs := #[.int .i64 t1150, .int .u64 t1151, .string (⟨#[]⟩ : ByteArray), .slice none 0 0]) ?_ 2 _ rfl; (with_reducible repeat (first | refine blk_drewN ?_ _ | refine blk_drew ?_ | refine blk_alloc ?_ _)); refine blk_put (cs := #[.int .i64 t1150, .int .u64 0, .string (⟨#[]⟩ : ByteArray), .slice none 0 0]) ?_ 1 _ rfl; (with_reducible repeat (first | refine blk_drewN ?_ _ | refine blk_drew ?_ | refine blk_alloc ?_ _)); refine blk_put (cs := #[.int .i64 0, .int .u64 0, .string (⟨#[]⟩ : ByteArray), .slice none 0 0]) ?_ 0 _ rfl; (with_reducible repeat (first | refine blk_drewN ?_ _ | refine blk_drew ?_ | refine blk_alloc ?_ _)); exact BK1158.out) hb); have n2_ := Aside0.mk (below_step (by repeat (first | (with_reducible first | exact HB.out | apply below_alloc | apply pw_below_drewN | apply below_drew1 | refine below_set ?_ GE1158.out) | exact HB.out)) hb); clear HO1155; clear BK1158; clear HB; have HO1155 := n0_; have BK1158 := n1_; have HB := n2_; clear n0_ n1_ n2_; (try clear hb); (try clear hb2); (try clear hk); (try clear hi)))
           go_meet
           case rel => exact ⟨_, (true), (by first | rfl | (simp; done) | (simp [*]; done)), H', ⟨by have := HJ6.out; first | omega | exact Nat.le_refl _⟩, ⟨by (with_reducible repeat (first | apply Kd.R_alloc | apply Kd.R_drewN | apply Kd.R_drew)); exact Kd.R_mono HO1155.out (fun _ hk => hk.2)⟩, ⟨by (with_reducible repeat (first | refine blk_drewN ?_ _ | refine blk_drew ?_ | refine blk_alloc ?_ _)); exact BK1158.out⟩, ⟨by repeat (first | (with_reducible first | exact HB.out | apply below_alloc | apply pw_below_drewN | apply below_drew1 | refine below_set ?_ GE1158.out) | exact HB.out)⟩⟩
       case rest =>
        clear HC14
        try clear c1
        try clear c2
        try clear p2
        try clear c3
        try clear c6
        try clear c9
        try clear c9b0
        try clear c9b1
        try clear c10
        try clear c11
        try clear c13
        try clear c13b0
        try clear c13b1
        try clear c19
        try clear c19b0
        try clear c20
        try clear c20b0
        try clear c22
        try clear c22b0
        try clear c22b1
        try clear c27
        try clear hcz17_0
        try clear hcz17_1
        try clear hcz17_2
        try clear hcz17_3
        try clear hcz24_0
        try clear hcz24_1
        try clear hcz24_2
        try clear hcz24_3
        try clear hcz26_0
        try clear hcz26_1
        try clear hcz26_2
        try clear hcz26_3
        try clear hcz28_0
        try clear hcz28_1
        try clear hcz28_2
        try clear hcz28_3
        try clear hfz17_0
        try clear hfz17_1
        try clear hfz17_2
        try clear hfz17_3
        try clear hfz24_0
        try clear hfz24_1
        try clear hfz24_2
        try clear hfz24_3
        try clear hfz26_0
        try clear hfz26_1
        try clear hfz26_2
        try clear hfz26_3
        try clear hfz28_0
        try clear hfz28_1
        try clear hfz28_2
        try clear hfz28_3
        try clear p2
        obtain ⟨kq, x65_13, rfl, HA, HJ13, HO_1159003, BK1158, HB⟩ := hcut
        cases kq with
        | zero => exact absurd HA.out (by simp [polyglotlaw17_AmqvalueReads.j1])
        | succ kj13 =>
         have H := HA.out
         clear HA
         simp only [polyglotlaw17_AmqvalueReads.j1] at H
         by_cases c30 : x65_13 = true
         ·subst c30
          have H1 : (none) = some r := by rw [if_pos rfl] at H; exact H
          clear H
          have H := H1
          clear H1
          exact absurd H (by simp)
         ·replace c30 := Bool.eq_false_iff.mpr c30
          subst c30
          have H1 : (if 0 ≤ t1156 then (if t1156 ≤ (a0.size : Int) then (if (a0.extract 0 (t1156 : Int).toNat).size + a1.size ≤ 9223372036854775807 then ((amqvalue_Read.f ((a0.extract 0 (t1156 : Int).toNat) ++ a1) (wrap64 (t1149 + 1))).bind fun bt1162 => (if bt1162.2.2.2.2.2 = 0 then (if bt1162.2.2.2.2.1 = t1156 then ((amqvalue_Same.f kj13 t1150 t1151 t1152 t1153 bt1162.1 bt1162.2.1 bt1162.2.2.1 bt1162.2.2.2.1).bind fun t1171 => (polyglotlaw17_AmqvalueReads.j2 kj13 a0 t1149 a3 t1156 (!t1171))) else (polyglotlaw17_AmqvalueReads.j2 kj13 a0 t1149 a3 t1156 true)) else (polyglotlaw17_AmqvalueReads.j2 kj13 a0 t1149 a3 t1156 true))) else (none)) else (none)) else (none)) = some r := by rw [if_neg (show ¬ (false = true) by decide)] at H; exact H
          clear H
          have H := H1
          clear H1
          by_cases c31 : 0 ≤ t1156
          ·rw [if_pos c31] at H
           have c31b0 := eq_true c31
           have c31b1 : decide (0 ≤ t1156) = true := decide_eq_true c31
           clear c31
           by_cases c32 : t1156 ≤ (a0.size : Int)
           ·rw [if_pos c32] at H
            have c32b0 := eq_true c32
            have c32b1 : decide (t1156 ≤ (a0.size : Int)) = true := decide_eq_true c32
            clear c32
            by_cases c33 : (a0.extract 0 (t1156 : Int).toNat).size + a1.size ≤ 9223372036854775807
            ·rw [if_pos c33] at H
             have c33b0 := eq_true c33
             have c33b1 : decide ((a0.extract 0 (t1156 : Int).toNat).size + a1.size ≤ 9223372036854775807) = true := decide_eq_true c33
             try have c33b2 : (9223372036854775807 < (a0.extract 0 (t1156 : Int).toNat).size + a1.size) = False := eq_false (Nat.not_lt.2 c33)
             replace H := Option.bind_eq_some_iff.mp H
             obtain ⟨⟨t1162, t1163, t1164, t1165, t1168, t1169⟩, A340, H⟩ := H
             replace H : (if t1169 = 0 then (if t1168 = t1156 then ((amqvalue_Same.f kj13 t1150 t1151 t1152 t1153 t1162 t1163 t1164 t1165).bind fun t1171 => (polyglotlaw17_AmqvalueReads.j2 kj13 a0 t1149 a3 t1156 (!t1171))) else (polyglotlaw17_AmqvalueReads.j2 kj13 a0 t1149 a3 t1156 true)) else (polyglotlaw17_AmqvalueReads.j2 kj13 a0 t1149 a3 t1156 true)) = some r := H
             have A34 := Aside0.mk A340
             clear A340
             have HC35 := Aside0.mk H
             clear H
             go_upto_region 12 with (first | ((with_reducible refine gate_callee (f := 30) rfl ?_); refine goesL_ (some 74) rfl rfl Tryd.func30 (by kernel_rfl) rfl #[.string ((a0.extract 0 (t1156 : Int).toNat) ++ a1), .int .i64 (wrap64 (t1149 + 1))] rfl (by (try simp only [List.map_toArray, List.map_cons, List.map_nil]); first | done | rfl | (simp only [List.length_drop, List.length_take]; rfl)) ?_; (with_reducible refine (amqvalue_Read.calls ((a0.extract 0 (t1156 : Int).toNat) ++ a1) (wrap64 (t1149 + 1)) t1162 t1163 t1164 t1165 t1168 t1169 _ ?side1 A34.out).mono ?_); (case side1 => exact HT.out.below (by repeat (first | (with_reducible first | exact HB.out | apply below_alloc | apply pw_below_drewN | apply below_drew1 | refine below_set ?_ GE1158.out) | exact HB.out))); rintro e w36 ⟨v1166, rfl, ho0, hb⟩; refine ⟨_, rfl, ?_⟩; have n0_ := Aside0.mk (Kd.R_elder' (by (with_reducible repeat (first | apply Kd.R_alloc | apply Kd.R_drewN | apply Kd.R_drew)); exact HO_1159003.out) (Kd.R_base ho0) hb); have n1_ := Aside0.mk (Kd.R_lower (Kd.R_newB (Kd.R_new' ho0 (Kd.R_lt (by (with_reducible repeat (first | apply Kd.R_alloc | apply Kd.R_drewN | apply Kd.R_drew)); exact HO_1159003.out))) (g := gb1158) (o := .cells #[.int .i64 t1150, .int .u64 t1151, .string t1152, .slice Ao18 t1153.length co18] 25 (0, 0)) (by (with_reducible repeat (first | refine blk_drewN ?_ _ | refine blk_drew ?_ | refine blk_alloc ?_ _)); exact BK1158.out)) (below_size (by repeat (first | (with_reducible first | exact HB.out | apply below_alloc | apply pw_below_drewN | apply below_drew1 | refine below_set ?_ GE1158.out) | exact HB.out)))); have n2_ := Aside0.mk (blk_below (g := gb1158) (o := .cells #[.int .i64 t1150, .int .u64 t1151, .string t1152, .slice Ao18 t1153.length co18] 25 (0, 0)) (by (with_reducible repeat (first | refine blk_drewN ?_ _ | refine blk_drew ?_ | refine blk_alloc ?_ _)); exact BK1158.out) hb); have n3_ := Aside0.mk (below_step (by repeat (first | (with_reducible first | exact HB.out | apply below_alloc | apply pw_below_drewN | apply below_drew1 | refine below_set ?_ GE1158.out) | exact HB.out)) hb); clear HO_1159003; clear BK1158; clear HB; have HO_1159003 := n0_; have HO1167 := n1_; have BK1158 := n2_; have HB := n3_; clear n0_ n1_ n2_ n3_; (try clear hb); (try clear hb2); (try clear hk); (try clear hi); (try clear ho0)) | ((with_reducible refine gate_dst (N := 12) rfl ?_); (try (refine gate_guard (by rfl) ?_; dsimp only)); refine box_event ?hg (N := 12) ?hd (cs := #[.int .i64 0, .int .u64 0, .string (⟨#[]⟩ : ByteArray), .slice none 0 0]) (t := 25) ?hr ?_; (case hd => rfl); (case hg => rfl); (case hr => first | (go_simp; done) | (go_simp; rfl)); intro gb1170 hg w37 hbox hb; have n0_ := Aside0.mk (Kd.R_below (Kd.R_elderB (by (with_reducible repeat (first | apply Kd.R_alloc | apply Kd.R_drewN | apply Kd.R_drew)); exact HO_1159003.out) gb1170 (Nat.le_of_eq hg.symm)) hb); have n1_ := Aside0.mk (Kd.R_below (Kd.R_elderB (by (with_reducible repeat (first | apply Kd.R_alloc | apply Kd.R_drewN | apply Kd.R_drew)); exact HO1167.out) gb1170 (Nat.le_of_eq hg.symm)) hb); have n2_ := Aside0.mk (blk_below (g := gb1158) (o := .cells #[.int .i64 t1150, .int .u64 t1151, .string t1152, .slice Ao18 t1153.length co18] 25 (0, 0)) (by (with_reducible repeat (first | refine blk_drewN ?_ _ | refine blk_drew ?_ | refine blk_alloc ?_ _)); exact BK1158.out) hb); have n3_ := Aside0.mk (below_step (by repeat (first | (with_reducible first | exact HB.out | apply below_alloc | apply pw_below_drewN | apply below_drew1 | refine below_set ?_ GE1158.out) | exact HB.out)) hb); have n4_ := Aside0.mk (hbox); have n5_ := Aside0.mk ((by rw [hg]; exact (below_size (by repeat (first | (with_reducible first | exact HB.out | apply below_alloc | apply pw_below_drewN | apply below_drew1 | refine below_set ?_ GE1158.out) | exact HB.out))) : w.heap.size ≤ gb1170)); have n6_ := Aside0.mk ((by rw [hg]; exact (below_size (by repeat (first | (with_reducible first | exact HB.out | apply below_alloc | apply pw_below_drewN | apply below_drew1 | refine below_set ?_ GE1158.out) | exact HB.out))) : w.heap.size ≤ gb1170)); have n7_ := Aside0.mk ((by rw [hg]; exact Nat.ne_of_lt (blk_lt (g := gb1158) (o := .cells #[.int .i64 t1150, .int .u64 t1151, .string t1152, .slice Ao18 t1153.length co18] 25 (0, 0)) (by (with_reducible repeat (first | refine blk_drewN ?_ _ | refine blk_drew ?_ | refine blk_alloc ?_ _)); exact BK1158.out)) : gb1158 ≠ gb1170)); have n8_ := Aside0.mk ((by rw [hg]; exact Nat.ne_of_gt (blk_lt (g := gb1158) (o := .cells #[.int .i64 t1150, .int .u64 t1151, .string t1152, .slice Ao18 t1153.length co18] 25 (0, 0)) (by (with_reducible repeat (first | refine blk_drewN ?_ _ | refine blk_drew ?_ | refine blk_alloc ?_ _)); exact BK1158.out)) : gb1170 ≠ gb1158)); clear HO_1159003; clear HO1167; clear BK1158; clear HB; have HO_1159003 := n0_; have HO1167 := n1_; have BK1158 := n2_; have HB := n3_; have BK1170 := n4_; have GW1170 := n5_; have GE1170 := n6_; have NB1158_1170 := n7_; have NB1170_1158 := n8_; clear n0_ n1_ n2_ n3_ n4_ n5_ n6_ n7_ n8_; clear hb hbox hg; have hnb38 := NB1170_1158.out; have hnc38 := NB1158_1170.out; have hcz39_0 : w37.cell? ⟨gb1170, 0, none⟩ = some (.int .i64 0) := (blk_cell BK1170.out 0).trans rfl; have hcz39_1 : w37.cell? ⟨gb1170, 1, none⟩ = some (.int .u64 0) := (blk_cell BK1170.out 1).trans rfl; have hcz39_2 : w37.cell? ⟨gb1170, 2, none⟩ = some (.string (⟨#[]⟩ : ByteArray)) := (blk_cell BK1170.out 2).trans rfl; have hcz39_3 : w37.cell? ⟨gb1170, 3, none⟩ = some (.slice none 0 0) := (blk_cell BK1170.out 3).trans rfl; have hfz39_0 := blk_frozen BK1170.out 0; have hfz39_1 := blk_frozen BK1170.out 1; have hfz39_2 := blk_frozen BK1170.out 2; have hfz39_3 := blk_frozen BK1170.out 3; obtain ⟨Ao40, co40, eo40⟩ := Kd.R_slice HO1167.out; subst eo40))
             (try simp only [Act.put, List.setIfInBounds_toArray, List.set_cons_zero, List.set_cons_succ])
             go_cut [90] (fun v90 wc => ∃ (kq : Nat) (x90_34 : Bool), v90 = .bool x90_34 ∧ Aside0 (polyglotlaw17_AmqvalueReads.j2 kq a0 t1149 a3 t1156 x90_34 = some r) ∧ Aside0 (kq ≤ kj13) ∧ Aside0 (Kd.R kV 25 wc w.heap.size (fun k_ => some k_ ≠ ((.slice Ao40 t1165.length co40) : Value).ownBlock ∧ k_ ≠ gb1158 ∧ k_ ≠ gb1170) (.slice Ao18 t1153.length co18) t1153) ∧ Aside0 (Kd.R kV 25 wc w.heap.size (fun k_ => some k_ ≠ ((.slice Ao18 t1153.length co18) : Value).ownBlock ∧ k_ ≠ gb1158 ∧ k_ ≠ gb1170) (.slice Ao40 t1165.length co40) t1165) ∧ Aside0 (wc.heap[gb1158]? = some (.cells #[.int .i64 t1150, .int .u64 t1151, .string t1152, (.slice Ao18 t1153.length co18)] 25 (0, 0))) ∧ Aside0 (wc.heap[gb1170]? = some (.cells #[.int .i64 t1162, .int .u64 t1163, .string t1164, (.slice Ao40 t1165.length co40)] 25 (0, 0))) ∧ Aside0 (Below w.heap.size w wc))
             case first =>
              have H := HC35.out
              clear HC35
              by_cases c41 : t1169 = 0
              ·rw [if_pos c41] at H
               have c41b0 : (t1169 == 0) = true := beq_iff_eq.mpr c41
               have c41b1 : (t1169 != 0) = false := bne_eq_false_iff_eq.mpr c41
               clear c41
               (first | rw [c41b0] | (simp only [i64_w, i32_w]; rw [c41b0]) | skip)
               by_cases c42 : t1168 = t1156
               ·rw [if_pos c42] at H
                have c42b0 : (t1168 == t1156) = true := beq_iff_eq.mpr c42
                have c42b1 : (t1168 != t1156) = false := bne_eq_false_iff_eq.mpr c42
                clear c42
                replace H := Option.bind_eq_some_iff.mp H
                obtain ⟨t1171, A430, H⟩ := H
                replace H : (polyglotlaw17_AmqvalueReads.j2 kj13 a0 t1149 a3 t1156 (!t1171)) = some r := H
                have A43 := Aside0.mk A430
                clear A430
                have H' := Aside0.mk H
                clear H
                have hnb44 := NB1158_1170.out
                have hnc44 := NB1170_1158.out
                have hcz45_0 : w37.cell? ⟨gb1158, 0, none⟩ = some (.int .i64 t1150) := (blk_cell BK1158.out 0).trans rfl
                have hcz45_1 : w37.cell? ⟨gb1158, 1, none⟩ = some (.int .u64 t1151) := (blk_cell BK1158.out 1).trans rfl
                have hcz45_2 : w37.cell? ⟨gb1158, 2, none⟩ = some (.string t1152) := (blk_cell BK1158.out 2).trans rfl
                have hcz45_3 : w37.cell? ⟨gb1158, 3, none⟩ = some (.slice Ao18 t1153.length co18) := (blk_cell BK1158.out 3).trans rfl
                have hfz45_0 := blk_frozen BK1158.out 0
                have hfz45_1 := blk_frozen BK1158.out 1
                have hfz45_2 := blk_frozen BK1158.out 2
                have hfz45_3 := blk_frozen BK1158.out 3
                have hcz46_0 : w37.cell? ⟨gb1170, 0, none⟩ = some (.int .i64 0) := (blk_cell BK1170.out 0).trans rfl
                have hcz46_1 : w37.cell? ⟨gb1170, 1, none⟩ = some (.int .u64 0) := (blk_cell BK1170.out 1).trans rfl
                have hcz46_2 : w37.cell? ⟨gb1170, 2, none⟩ = some (.string (⟨#[]⟩ : ByteArray)) := (blk_cell BK1170.out 2).trans rfl
                have hcz46_3 : w37.cell? ⟨gb1170, 3, none⟩ = some (.slice none 0 0) := (blk_cell BK1170.out 3).trans rfl
                have hfz46_0 := blk_frozen BK1170.out 0
                have hfz46_1 := blk_frozen BK1170.out 1
                have hfz46_2 := blk_frozen BK1170.out 2
                have hfz46_3 := blk_frozen BK1170.out 3
                go_wp2_with (first | (go_at_call 32; (with_reducible refine (amqvalue_Same.calls kj13 t1150 t1151 t1152 _ _ t1153 t1162 t1163 t1164 _ _ t1165 t1171 _ ?side1 ?side2 ?side3 ?side4 A43.out).mono ?_); (case side1 => refine (Kd.R_reads' (e := 25) (base := w.heap.size) (ok := fun k_ => ((k_ ≠ gb1158 ∧ some k_ ≠ (.slice Ao40 t1165.length co40 : Value).ownBlock) ∧ k_ ≠ gb1170)) (n := t1153.length) (c := co18) ?_).2.2; exact (by (with_reducible repeat (first | apply Kd.R_alloc | apply Kd.R_drewN | apply Kd.R_drew)); exact (Kd.R_mono (Kd.R_far (p := ⟨gb1170, 3, none⟩) (Kd.R_far (p := ⟨gb1170, 2, none⟩) (Kd.R_far (p := ⟨gb1170, 1, none⟩) (Kd.R_far (p := ⟨gb1170, 0, none⟩) (Kd.R_mono HO_1159003.out (fun k_ hk => (⟨hk, hk.2⟩ : _ ∧ k_ ≠ gb1170))) (fun _ hk => hk.2) (.int .i64 t1162)) (fun _ hk => hk.2) (.int .u64 t1163)) (fun _ hk => hk.2) (.string t1164)) (fun _ hk => hk.2) (.slice Ao40 t1165.length co40)) (fun _ h_ => h_.1)))); (case side2 => exact (Kd.R_reads' HO_1159003.out).2.1); (case side3 => refine (Kd.R_reads' (e := 25) (base := w.heap.size) (ok := fun k_ => (((True ∧ some k_ ≠ (.slice Ao18 t1153.length co18 : Value).ownBlock) ∧ k_ ≠ gb1158) ∧ k_ ≠ gb1170)) (n := t1165.length) (c := co40) ?_).2.2; exact (by (with_reducible repeat (first | apply Kd.R_alloc | apply Kd.R_drewN | apply Kd.R_drew)); exact (Kd.R_mono (Kd.R_far (p := ⟨gb1170, 3, none⟩) (Kd.R_far (p := ⟨gb1170, 2, none⟩) (Kd.R_far (p := ⟨gb1170, 1, none⟩) (Kd.R_far (p := ⟨gb1170, 0, none⟩) (Kd.R_mono HO1167.out (fun k_ hk => (⟨hk, hk.2⟩ : _ ∧ k_ ≠ gb1170))) (fun _ hk => hk.2) (.int .i64 t1162)) (fun _ hk => hk.2) (.int .u64 t1163)) (fun _ hk => hk.2) (.string t1164)) (fun _ hk => hk.2) (.slice Ao40 t1165.length co40)) (fun _ h_ => h_.1)))); (case side4 => exact (Kd.R_reads' HO1167.out).2.1); rintro e w47 ⟨rfl, hb⟩; have n0_ := Aside0.mk (Kd.R_below (by (with_reducible repeat (first | apply Kd.R_alloc | apply Kd.R_drewN | apply Kd.R_drew)); exact (Kd.R_mono (Kd.R_far (p := ⟨gb1170, 3, none⟩) (Kd.R_far (p := ⟨gb1170, 2, none⟩) (Kd.R_far (p := ⟨gb1170, 1, none⟩) (Kd.R_far (p := ⟨gb1170, 0, none⟩) (Kd.R_mono HO_1159003.out (fun k_ hk => (⟨hk, hk.2⟩ : _ ∧ k_ ≠ gb1170))) (fun _ hk => hk.2) (.int .i64 t1162)) (fun _ hk => hk.2) (.int .u64 t1163)) (fun _ hk => hk.2) (.string t1164)) (fun _ hk => hk.2) (.slice Ao40 t1165.length co40)) (fun _ h_ => h_.1))) hb); have n1_ := Aside0.mk (Kd.R_below (by (with_reducible repeat (first | apply Kd.R_alloc | apply Kd.R_drewN | apply Kd.R_drew)); exact (Kd.R_mono (Kd.R_far (p := ⟨gb1170, 3, none⟩) (Kd.R_far (p := ⟨gb1170, 2, none⟩) (Kd.R_far (p := ⟨gb1170, 1, none⟩) (Kd.R_far (p := ⟨gb1170, 0, none⟩) (Kd.R_mono HO1167.out (fun k_ hk => (⟨hk, hk.2⟩ : _ ∧ k_ ≠ gb1170))) (fun _ hk => hk.2) (.int .i64 t1162)) (fun _ hk => hk.2) (.int .u64 t1163)) (fun _ hk => hk.2) (.string t1164)) (fun _ hk => hk.2) (.slice Ao40 t1165.length co40)) (fun _ h_ => h_.1))) hb); have n2_ := Aside0.mk (blk_below (g := gb1158) (o := .cells #[.int .i64 t1150, .int .u64 t1151, .string t1152, .slice Ao18 t1153.length co18] 25 (0, 0)) (by (with_reducible repeat (first | refine blk_drewN ?_ _ | refine blk_drew ?_ | refine blk_alloc ?_ _)); refine blk_far ?_ NB1158_1170.out _; (with_reducible repeat (first | refine blk_drewN ?_ _ | refine blk_drew ?_ | refine blk_alloc ?_ _)); refine blk_far ?_ NB1158_1170.out _; (with_reducible repeat (first | refine blk_drewN ?_ _ | refine blk_drew ?_ | refine blk_alloc ?_ _)); refine blk_far ?_ NB1158_1170.out _; (with_reducible repeat (first | refine blk_drewN ?_ _ | refine blk_drew ?_ | refine blk_alloc ?_ _)); refine blk_far ?_ NB1158_1170.out _; (with_reducible repeat (first | refine blk_drewN ?_ _ | refine blk_drew ?_ | refine blk_alloc ?_ _)); exact BK1158.out) hb); have n3_ := Aside0.mk (blk_below (g := gb1170) (o := .cells #[.int .i64 t1162, .int .u64 t1163, .string t1164, .slice Ao40 t1165.length co40] 25 (0, 0)) (by (with_reducible repeat (first | refine blk_drewN ?_ _ | refine blk_drew ?_ | refine blk_alloc ?_ _)); refine blk_put (cs := #[.int .i64 t1162, .int .u64 t1163, .string t1164, .slice none 0 0]) ?_ 3 _ rfl; (with_reducible repeat (first | refine blk_drewN ?_ _ | refine blk_drew ?_ | refine blk_alloc ?_ _)); refine blk_put (cs := #[.int .i64 t1162, .int .u64 t1163, .string (⟨#[]⟩ : ByteArray), .slice none 0 0]) ?_ 2 _ rfl; (with_reducible repeat (first | refine blk_drewN ?_ _ | refine blk_drew ?_ | refine blk_alloc ?_ _)); refine blk_put (cs := #[.int .i64 t1162, .int .u64 0, .string (⟨#[]⟩ : ByteArray), .slice none 0 0]) ?_ 1 _ rfl; (with_reducible repeat (first | refine blk_drewN ?_ _ | refine blk_drew ?_ | refine blk_alloc ?_ _)); refine blk_put (cs := #[.int .i64 0, .int .u64 0, .string (⟨#[]⟩ : ByteArray), .slice none 0 0]) ?_ 0 _ rfl; (with_reducible repeat (first | refine blk_drewN ?_ _ | refine blk_drew ?_ | refine blk_alloc ?_ _)); exact BK1170.out) hb); have n4_ := Aside0.mk (below_step (by repeat (first | (with_reducible first | exact HB.out | apply below_alloc | apply pw_below_drewN | apply below_drew1 | refine below_set ?_ GE1158.out | refine below_set ?_ GE1170.out) | exact HB.out)) hb); clear HO_1159003; clear HO1167; clear BK1158; clear BK1170; clear HB; have HO_1159003 := n0_; have HO1167 := n1_; have BK1158 := n2_; have BK1170 := n3_; have HB := n4_; clear n0_ n1_ n2_ n3_ n4_; (try clear hb); (try clear hb2); (try clear hk); (try clear hi)))
                go_meet
                case rel => exact ⟨_, (!t1171), (by first | rfl | (simp; done) | (simp [*]; done)), H', ⟨by have := HJ6.out; have := HJ13.out; first | omega | exact Nat.le_refl _⟩, ⟨by (with_reducible repeat (first | apply Kd.R_alloc | apply Kd.R_drewN | apply Kd.R_drew)); exact Kd.R_mono HO_1159003.out (fun _ hk => ⟨hk.1.2, ⟨hk.1.1, hk.2⟩⟩)⟩, ⟨by (with_reducible repeat (first | apply Kd.R_alloc | apply Kd.R_drewN | apply Kd.R_drew)); exact Kd.R_mono HO1167.out (fun _ hk => ⟨hk.1.1.2, ⟨hk.1.2, hk.2⟩⟩)⟩, ⟨by (with_reducible repeat (first | refine blk_drewN ?_ _ | refine blk_drew ?_ | refine blk_alloc ?_ _)); exact BK1158.out⟩, ⟨by (with_reducible repeat (first | refine blk_drewN ?_ _ | refine blk_drew ?_ | refine blk_alloc ?_ _)); exact BK1170.out⟩, ⟨by repeat (first | (with_reducible first | exact HB.out | apply below_alloc | apply pw_below_drewN | apply below_drew1 | refine below_set ?_ GE1158.out | refine below_set ?_ GE1170.out) | exact HB.out)⟩⟩
               ·rw [if_neg c42] at H
                have c42b0 : (t1168 == t1156) = false := beq_eq_false_iff_ne.mpr c42
                have c42b1 : (t1168 != t1156) = true := bne_iff_ne.mpr c42
                have H' := Aside0.mk H
                clear H
                go_wp2
                go_meet
                case rel => exact ⟨_, (true), (by first | rfl | (simp; done) | (simp [*]; done)), H', ⟨by have := HJ6.out; have := HJ13.out; first | omega | exact Nat.le_refl _⟩, ⟨by (with_reducible repeat (first | apply Kd.R_alloc | apply Kd.R_drewN | apply Kd.R_drew)); exact Kd.R_mono (Kd.R_far (p := ⟨gb1170, 3, none⟩) (Kd.R_far (p := ⟨gb1170, 2, none⟩) (Kd.R_far (p := ⟨gb1170, 1, none⟩) (Kd.R_far (p := ⟨gb1170, 0, none⟩) (Kd.R_mono HO_1159003.out (fun k_ hk => (⟨hk, hk.2⟩ : _ ∧ k_ ≠ gb1170))) (fun _ hk => hk.2) (.int .i64 t1162)) (fun _ hk => hk.2) (.int .u64 t1163)) (fun _ hk => hk.2) (.string t1164)) (fun _ hk => hk.2) (.slice Ao40 t1165.length co40)) (fun _ hk => ⟨hk.1.1.2, ⟨hk.1.1.1, hk.1.2⟩⟩)⟩, ⟨by (with_reducible repeat (first | apply Kd.R_alloc | apply Kd.R_drewN | apply Kd.R_drew)); exact Kd.R_mono (Kd.R_far (p := ⟨gb1170, 3, none⟩) (Kd.R_far (p := ⟨gb1170, 2, none⟩) (Kd.R_far (p := ⟨gb1170, 1, none⟩) (Kd.R_far (p := ⟨gb1170, 0, none⟩) (Kd.R_mono HO1167.out (fun k_ hk => (⟨hk, hk.2⟩ : _ ∧ k_ ≠ gb1170))) (fun _ hk => hk.2) (.int .i64 t1162)) (fun _ hk => hk.2) (.int .u64 t1163)) (fun _ hk => hk.2) (.string t1164)) (fun _ hk => hk.2) (.slice Ao40 t1165.length co40)) (fun _ hk => ⟨hk.1.1.1.2, ⟨hk.1.1.2, hk.1.2⟩⟩)⟩, ⟨by (with_reducible repeat (first | refine blk_drewN ?_ _ | refine blk_drew ?_ | refine blk_alloc ?_ _)); refine blk_far ?_ NB1158_1170.out _; (with_reducible repeat (first | refine blk_drewN ?_ _ | refine blk_drew ?_ | refine blk_alloc ?_ _)); refine blk_far ?_ NB1158_1170.out _; (with_reducible repeat (first | refine blk_drewN ?_ _ | refine blk_drew ?_ | refine blk_alloc ?_ _)); refine blk_far ?_ NB1158_1170.out _; (with_reducible repeat (first | refine blk_drewN ?_ _ | refine blk_drew ?_ | refine blk_alloc ?_ _)); refine blk_far ?_ NB1158_1170.out _; (with_reducible repeat (first | refine blk_drewN ?_ _ | refine blk_drew ?_ | refine blk_alloc ?_ _)); exact BK1158.out⟩, ⟨by (with_reducible repeat (first | refine blk_drewN ?_ _ | refine blk_drew ?_ | refine blk_alloc ?_ _)); refine blk_put (cs := #[.int .i64 t1162, .int .u64 t1163, .string t1164, .slice none 0 0]) ?_ 3 _ rfl; (with_reducible repeat (first | refine blk_drewN ?_ _ | refine blk_drew ?_ | refine blk_alloc ?_ _)); refine blk_put (cs := #[.int .i64 t1162, .int .u64 t1163, .string (⟨#[]⟩ : ByteArray), .slice none 0 0]) ?_ 2 _ rfl; (with_reducible repeat (first | refine blk_drewN ?_ _ | refine blk_drew ?_ | refine blk_alloc ?_ _)); refine blk_put (cs := #[.int .i64 t1162, .int .u64 0, .string (⟨#[]⟩ : ByteArray), .slice none 0 0]) ?_ 1 _ rfl; (with_reducible repeat (first | refine blk_drewN ?_ _ | refine blk_drew ?_ | refine blk_alloc ?_ _)); refine blk_put (cs := #[.int .i64 0, .int .u64 0, .string (⟨#[]⟩ : ByteArray), .slice none 0 0]) ?_ 0 _ rfl; (with_reducible repeat (first | refine blk_drewN ?_ _ | refine blk_drew ?_ | refine blk_alloc ?_ _)); exact BK1170.out⟩, ⟨by repeat (first | (with_reducible first | exact HB.out | apply below_alloc | apply pw_below_drewN | apply below_drew1 | refine below_set ?_ GE1158.out | refine below_set ?_ GE1170.out) | exact HB.out)⟩⟩
              ·rw [if_neg c41] at H
               have c41b0 : (t1169 == 0) = false := beq_eq_false_iff_ne.mpr c41
               have c41b1 : (t1169 != 0) = true := bne_iff_ne.mpr c41
               (first | rw [c41b0] | (simp only [i64_w, i32_w]; rw [c41b0]) | skip)
               have H' := Aside0.mk H
               clear H
               go_wp2
               go_meet
               case rel => exact ⟨_, (true), (by first | rfl | (simp; done) | (simp [*]; done)), H', ⟨by have := HJ6.out; have := HJ13.out; first | omega | exact Nat.le_refl _⟩, ⟨by (with_reducible repeat (first | apply Kd.R_alloc | apply Kd.R_drewN | apply Kd.R_drew)); exact Kd.R_mono (Kd.R_far (p := ⟨gb1170, 3, none⟩) (Kd.R_far (p := ⟨gb1170, 2, none⟩) (Kd.R_far (p := ⟨gb1170, 1, none⟩) (Kd.R_far (p := ⟨gb1170, 0, none⟩) (Kd.R_mono HO_1159003.out (fun k_ hk => (⟨hk, hk.2⟩ : _ ∧ k_ ≠ gb1170))) (fun _ hk => hk.2) (.int .i64 t1162)) (fun _ hk => hk.2) (.int .u64 t1163)) (fun _ hk => hk.2) (.string t1164)) (fun _ hk => hk.2) (.slice Ao40 t1165.length co40)) (fun _ hk => ⟨hk.1.1.2, ⟨hk.1.1.1, hk.1.2⟩⟩)⟩, ⟨by (with_reducible repeat (first | apply Kd.R_alloc | apply Kd.R_drewN | apply Kd.R_drew)); exact Kd.R_mono (Kd.R_far (p := ⟨gb1170, 3, none⟩) (Kd.R_far (p := ⟨gb1170, 2, none⟩) (Kd.R_far (p := ⟨gb1170, 1, none⟩) (Kd.R_far (p := ⟨gb1170, 0, none⟩) (Kd.R_mono HO1167.out (fun k_ hk => (⟨hk, hk.2⟩ : _ ∧ k_ ≠ gb1170))) (fun _ hk => hk.2) (.int .i64 t1162)) (fun _ hk => hk.2) (.int .u64 t1163)) (fun _ hk => hk.2) (.string t1164)) (fun _ hk => hk.2) (.slice Ao40 t1165.length co40)) (fun _ hk => ⟨hk.1.1.1.2, ⟨hk.1.1.2, hk.1.2⟩⟩)⟩, ⟨by (with_reducible repeat (first | refine blk_drewN ?_ _ | refine blk_drew ?_ | refine blk_alloc ?_ _)); refine blk_far ?_ NB1158_1170.out _; (with_reducible repeat (first | refine blk_drewN ?_ _ | refine blk_drew ?_ | refine blk_alloc ?_ _)); refine blk_far ?_ NB1158_1170.out _; (with_reducible repeat (first | refine blk_drewN ?_ _ | refine blk_drew ?_ | refine blk_alloc ?_ _)); refine blk_far ?_ NB1158_1170.out _; (with_reducible repeat (first | refine blk_drewN ?_ _ | refine blk_drew ?_ | refine blk_alloc ?_ _)); refine blk_far ?_ NB1158_1170.out _; (with_reducible repeat (first | refine blk_drewN ?_ _ | refine blk_drew ?_ | refine blk_alloc ?_ _)); exact BK1158.out⟩, ⟨by (with_reducible repeat (first | refine blk_drewN ?_ _ | refine blk_drew ?_ | refine blk_alloc ?_ _)); refine blk_put (cs := #[.int .i64 t1162, .int .u64 t1163, .string t1164, .slice none 0 0]) ?_ 3 _ rfl; (with_reducible repeat (first | refine blk_drewN ?_ _ | refine blk_drew ?_ | refine blk_alloc ?_ _)); refine blk_put (cs := #[.int .i64 t1162, .int .u64 t1163, .string (⟨#[]⟩ : ByteArray), .slice none 0 0]) ?_ 2 _ rfl; (with_reducible repeat (first | refine blk_drewN ?_ _ | refine blk_drew ?_ | refine blk_alloc ?_ _)); refine blk_put (cs := #[.int .i64 t1162, .int .u64 0, .string (⟨#[]⟩ : ByteArray), .slice none 0 0]) ?_ 1 _ rfl; (with_reducible repeat (first | refine blk_drewN ?_ _ | refine blk_drew ?_ | refine blk_alloc ?_ _)); refine blk_put (cs := #[.int .i64 0, .int .u64 0, .string (⟨#[]⟩ : ByteArray), .slice none 0 0]) ?_ 0 _ rfl; (with_reducible repeat (first | refine blk_drewN ?_ _ | refine blk_drew ?_ | refine blk_alloc ?_ _)); exact BK1170.out⟩, ⟨by repeat (first | (with_reducible first | exact HB.out | apply below_alloc | apply pw_below_drewN | apply below_drew1 | refine below_set ?_ GE1158.out | refine below_set ?_ GE1170.out) | exact HB.out)⟩⟩
             case rest =>
              clear HC35
              try clear c1
              try clear c2
              try clear p2
              try clear c3
              try clear c4
              try clear c6
              try clear p6
              try clear c9
              try clear c9b0
              try clear c9b1
              try clear c10
              try clear c11
              try clear c13
              try clear c13b0
              try clear c13b1
              try clear c19
              try clear c19b0
              try clear c20
              try clear c20b0
              try clear c22
              try clear c22b0
              try clear c22b1
              try clear c27
              try clear c30
              try clear c31
              try clear c31b0
              try clear c31b1
              try clear c32
              try clear c32b0
              try clear c32b1
              try clear c33
              try clear c33b0
              try clear c33b1
              try clear c33b2
              try clear c38
              try clear c41
              try clear c41b0
              try clear c41b1
              try clear c42
              try clear c42b0
              try clear c42b1
              try clear c44
              try clear hcz17_0
              try clear hcz17_1
              try clear hcz17_2
              try clear hcz17_3
              try clear hcz24_0
              try clear hcz24_1
              try clear hcz24_2
              try clear hcz24_3
              try clear hcz26_0
              try clear hcz26_1
              try clear hcz26_2
              try clear hcz26_3
              try clear hcz28_0
              try clear hcz28_1
              try clear hcz28_2
              try clear hcz28_3
              try clear hcz39_0
              try clear hcz39_1
              try clear hcz39_2
              try clear hcz39_3
              try clear hcz45_0
              try clear hcz45_1
              try clear hcz45_2
              try clear hcz45_3
              try clear hcz46_0
              try clear hcz46_1
              try clear hcz46_2
              try clear hcz46_3
              try clear hfz17_0
              try clear hfz17_1
              try clear hfz17_2
              try clear hfz17_3
              try clear hfz24_0
              try clear hfz24_1
              try clear hfz24_2
              try clear hfz24_3
              try clear hfz26_0
              try clear hfz26_1
              try clear hfz26_2
              try clear hfz26_3
              try clear hfz28_0
              try clear hfz28_1
              try clear hfz28_2
              try clear hfz28_3
              try clear hfz39_0
              try clear hfz39_1
              try clear hfz39_2
              try clear hfz39_3
              try clear hfz45_0
              try clear hfz45_1
              try clear hfz45_2
              try clear hfz45_3
              try clear hfz46_0
              try clear hfz46_1
              try clear hfz46_2
              try clear hfz46_3
              try clear p2
              obtain ⟨kq, x90_34, rfl, HA, HJ34, HO_1159003, HO_1171003, BK1158, BK1170, HB⟩ := hcut
              cases kq with
              | zero => exact absurd HA.out (by simp [polyglotlaw17_AmqvalueReads.j2])
              | succ kj34 =>
               have H := HA.out
               clear HA
               simp only [polyglotlaw17_AmqvalueReads.j2] at H
               by_cases c48 : x90_34 = true
               ·subst c48
                have H1 : (none) = some r := by rw [if_pos rfl] at H; exact H
                clear H
                have H := H1
                clear H1
                exact absurd H (by simp)
               ·replace c48 := Bool.eq_false_iff.mpr c48
                subst c48
                have H1 : ((polyglotkit_Pick.f a3 t1156).bind fun t1172 => (if 0 ≤ t1172 then (if t1172 ≤ (a0.size : Int) then ((amqvalue_Read.f (a0.extract 0 (t1172 : Int).toNat) t1149).bind fun bt1173 => (some (bt1173.2.2.2.2.2 == 3))) else (none)) else (none))) = some r := by rw [if_neg (show ¬ (false = true) by decide)] at H; exact H
                clear H
                have H := H1
                clear H1
                replace H := Option.bind_eq_some_iff.mp H
                obtain ⟨t1172, A490, H⟩ := H
                replace H : (if 0 ≤ t1172 then (if t1172 ≤ (a0.size : Int) then ((amqvalue_Read.f (a0.extract 0 (t1172 : Int).toNat) t1149).bind fun bt1173 => (some (bt1173.2.2.2.2.2 == 3))) else (none)) else (none)) = some r := H
                have A49 := Aside0.mk A490
                clear A490
                by_cases c50 : 0 ≤ t1172
                ·rw [if_pos c50] at H
                 have c50b0 := eq_true c50
                 have c50b1 : decide (0 ≤ t1172) = true := decide_eq_true c50
                 clear c50
                 by_cases c51 : t1172 ≤ (a0.size : Int)
                 ·rw [if_pos c51] at H
                  have c51b0 := eq_true c51
                  have c51b1 : decide (t1172 ≤ (a0.size : Int)) = true := decide_eq_true c51
                  clear c51
                  replace H := Option.bind_eq_some_iff.mp H
                  obtain ⟨⟨t1173, t1174, t1175, t1176, t1179, t1180⟩, A520, H⟩ := H
                  replace H : (some (t1180 == 3)) = some r := H
                  have A52 := Aside0.mk A520
                  clear A520
                  obtain rfl := Option.some.inj H
                  go_wp2_with (first | ((with_reducible refine gate_callee (f := 22) rfl ?_); refine goesL_ (some 95) rfl rfl Tryd.func22 (by kernel_rfl) rfl #[.int .i64 a3, .int .i64 t1156] rfl (by (try simp only [List.map_toArray, List.map_cons, List.map_nil]); first | done | rfl | (simp only [List.length_drop, List.length_take]; rfl)) ?_; (with_reducible refine (polyglotkit_Pick.calls a3 t1156 t1172 _ A49.out).mono ?_); rintro e w' ⟨rfl, ⟨nd, rfl⟩⟩; refine ⟨_, rfl, ?_⟩; (try (rw [drewN_self wc]; generalize hq_ : World.drewN wc _ = wc; have n0_ : Aside0 (Kd.R kV 25 wc w.heap.size (fun k_ => some k_ ≠ (.slice Ao40 t1165.length co40 : Value).ownBlock ∧ k_ ≠ gb1158 ∧ k_ ≠ gb1170) (.slice Ao18 t1153.length co18) t1153) := ⟨by rw [← hq_]; exact (by (with_reducible repeat (first | apply Kd.R_alloc | apply Kd.R_drewN | apply Kd.R_drew)); exact HO_1159003.out)⟩; have n1_ : Aside0 (Kd.R kV 25 wc w.heap.size (fun k_ => some k_ ≠ (.slice Ao18 t1153.length co18 : Value).ownBlock ∧ k_ ≠ gb1158 ∧ k_ ≠ gb1170) (.slice Ao40 t1165.length co40) t1165) := ⟨by rw [← hq_]; exact (by (with_reducible repeat (first | apply Kd.R_alloc | apply Kd.R_drewN | apply Kd.R_drew)); exact HO_1171003.out)⟩; have n2_ : Aside0 (wc.heap[gb1158]? = some (.cells #[.int .i64 t1150, .int .u64 t1151, .string t1152, .slice Ao18 t1153.length co18] 25 (0, 0))) := ⟨by rw [← hq_]; exact (by (with_reducible repeat (first | refine blk_drewN ?_ _ | refine blk_drew ?_ | refine blk_alloc ?_ _)); exact BK1158.out)⟩; have n3_ : Aside0 (wc.heap[gb1170]? = some (.cells #[.int .i64 t1162, .int .u64 t1163, .string t1164, .slice Ao40 t1165.length co40] 25 (0, 0))) := ⟨by rw [← hq_]; exact (by (with_reducible repeat (first | refine blk_drewN ?_ _ | refine blk_drew ?_ | refine blk_alloc ?_ _)); exact BK1170.out)⟩; have n4_ : Aside0 (Below w.heap.size w wc) := ⟨by rw [← hq_]; exact (by repeat (first | (with_reducible first | exact HB.out | apply below_alloc | apply pw_below_drewN | apply below_drew1 | refine below_set ?_ GE1158.out | refine below_set ?_ GE1170.out) | exact HB.out))⟩; clear HO_1159003 HO_1171003 BK1158 BK1170 HB hq_; have HO_1159003 := n0_; have HO_1171003 := n1_; have BK1158 := n2_; have BK1170 := n3_; have HB := n4_; clear n0_ n1_ n2_ n3_ n4_))) | ((with_reducible refine gate_callee (f := 30) rfl ?_); refine goesL_ (some 98) rfl rfl Tryd.func30 (by kernel_rfl) rfl #[.string (a0.extract 0 (t1172 : Int).toNat), .int .i64 t1149] rfl (by (try simp only [List.map_toArray, List.map_cons, List.map_nil]); first | done | rfl | (simp only [List.length_drop, List.length_take]; rfl)) ?_; (with_reducible refine (amqvalue_Read.calls (a0.extract 0 (t1172 : Int).toNat) t1149 t1173 t1174 t1175 t1176 t1179 t1180 _ ?side1 A52.out).mono ?_); (case side1 => exact HT.out.below (by repeat (first | (with_reducible first | exact HB.out | apply below_alloc | apply pw_below_drewN | apply below_drew1 | refine below_set ?_ GE1158.out | refine below_set ?_ GE1170.out) | exact HB.out))); rintro e w53 ⟨v1177, rfl, ho0, hb⟩; refine ⟨_, rfl, ?_⟩; have n0_ := Aside0.mk (Kd.R_elder' (by (with_reducible repeat (first | apply Kd.R_alloc | apply Kd.R_drewN | apply Kd.R_drew)); exact HO_1159003.out) (Kd.R_base ho0) hb); have n1_ := Aside0.mk (Kd.R_elder' (by (with_reducible repeat (first | apply Kd.R_alloc | apply Kd.R_drewN | apply Kd.R_drew)); exact HO_1171003.out) (Kd.R_base ho0) hb); have n2_ := Aside0.mk (Kd.R_lower (Kd.R_newB (Kd.R_newB (Kd.R_new' (Kd.R_new' ho0 (Kd.R_lt (by (with_reducible repeat (first | apply Kd.R_alloc | apply Kd.R_drewN | apply Kd.R_drew)); exact HO_1159003.out))) (Kd.R_lt (by (with_reducible repeat (first | apply Kd.R_alloc | apply Kd.R_drewN | apply Kd.R_drew)); exact HO_1171003.out))) (g := gb1158) (o := .cells #[.int .i64 t1150, .int .u64 t1151, .string t1152, .slice Ao18 t1153.length co18] 25 (0, 0)) (by (with_reducible repeat (first | refine blk_drewN ?_ _ | refine blk_drew ?_ | refine blk_alloc ?_ _)); exact BK1158.out)) (g := gb1170) (o := .cells #[.int .i64 t1162, .int .u64 t1163, .string t1164, .slice Ao40 t1165.length co40] 25 (0, 0)) (by (with_reducible repeat (first | refine blk_drewN ?_ _ | refine blk_drew ?_ | refine blk_alloc ?_ _)); exact BK1170.out)) (below_size (by repeat (first | (with_reducible first | exact HB.out | apply below_alloc | apply pw_below_drewN | apply below_drew1 | refine below_set ?_ GE1158.out | refine below_set ?_ GE1170.out) | exact HB.out)))); have n3_ := Aside0.mk (blk_below (g := gb1158) (o := .cells #[.int .i64 t1150, .int .u64 t1151, .string t1152, .slice Ao18 t1153.length co18] 25 (0, 0)) (by (with_reducible repeat (first | refine blk_drewN ?_ _ | refine blk_drew ?_ | refine blk_alloc ?_ _)); exact BK1158.out) hb); have n4_ := Aside0.mk (blk_below (g := gb1170) (o := .cells #[.int .i64 t1162, .int .u64 t1163, .string t1164, .slice Ao40 t1165.length co40] 25 (0, 0)) (by (with_reducible repeat (first | refine blk_drewN ?_ _ | refine blk_drew ?_ | refine blk_alloc ?_ _)); exact BK1170.out) hb); have n5_ := Aside0.mk (below_step (by repeat (first | (with_reducible first | exact HB.out | apply below_alloc | apply pw_below_drewN | apply below_drew1 | refine below_set ?_ GE1158.out | refine below_set ?_ GE1170.out) | exact HB.out)) hb); clear HO_1159003; clear HO_1171003; clear BK1158; clear BK1170; clear HB; have HO_1159003 := n0_; have HO_1171003 := n1_; have HO1178 := n2_; have BK1158 := n3_; have BK1170 := n4_; have HB := n5_; clear n0_ n1_ n2_ n3_ n4_ n5_; (try clear hb); (try clear hb2); (try clear hk); (try clear hi); (try clear ho0)) | ((with_reducible refine gate_dst (N := 15) rfl ?_); (try (refine gate_guard (by rfl) ?_; dsimp only)); refine box_event ?hg (N := 15) ?hd (cs := #[.int .i64 0, .int .u64 0, .string (⟨#[]⟩ : ByteArray), .slice none 0 0]) (t := 25) ?hr ?_; (case hd => rfl); (case hg => rfl); (case hr => first | (go_simp; done) | (go_simp; rfl)); intro gb1181 hg w54 hbox hb; have n0_ := Aside0.mk (Kd.R_below (Kd.R_elderB (by (with_reducible repeat (first | apply Kd.R_alloc | apply Kd.R_drewN | apply Kd.R_drew)); exact HO_1159003.out) gb1181 (Nat.le_of_eq hg.symm)) hb); have n1_ := Aside0.mk (Kd.R_below (Kd.R_elderB (by (with_reducible repeat (first | apply Kd.R_alloc | apply Kd.R_drewN | apply Kd.R_drew)); exact HO_1171003.out) gb1181 (Nat.le_of_eq hg.symm)) hb); have n2_ := Aside0.mk (Kd.R_below (Kd.R_elderB (by (with_reducible repeat (first | apply Kd.R_alloc | apply Kd.R_drewN | apply Kd.R_drew)); exact HO1178.out) gb1181 (Nat.le_of_eq hg.symm)) hb); have n3_ := Aside0.mk (blk_below (g := gb1158) (o := .cells #[.int .i64 t1150, .int .u64 t1151, .string t1152, .slice Ao18 t1153.length co18] 25 (0, 0)) (by (with_reducible repeat (first | refine blk_drewN ?_ _ | refine blk_drew ?_ | refine blk_alloc ?_ _)); exact BK1158.out) hb); have n4_ := Aside0.mk (blk_below (g := gb1170) (o := .cells #[.int .i64 t1162, .int .u64 t1163, .string t1164, .slice Ao40 t1165.length co40] 25 (0, 0)) (by (with_reducible repeat (first | refine blk_drewN ?_ _ | refine blk_drew ?_ | refine blk_alloc ?_ _)); exact BK1170.out) hb); have n5_ := Aside0.mk (below_step (by repeat (first | (with_reducible first | exact HB.out | apply below_alloc | apply pw_below_drewN | apply below_drew1 | refine below_set ?_ GE1158.out | refine below_set ?_ GE1170.out) | exact HB.out)) hb); have n6_ := Aside0.mk (hbox); have n7_ := Aside0.mk ((by rw [hg]; exact (below_size (by repeat (first | (with_reducible first | exact HB.out | apply below_alloc | apply pw_below_drewN | apply below_drew1 | refine below_set ?_ GE1158.out | refine below_set ?_ GE1170.out) | exact HB.out))) : w.heap.size ≤ gb1181)); have n8_ := Aside0.mk ((by rw [hg]; exact (below_size (by repeat (first | (with_reducible first | exact HB.out | apply below_alloc | apply pw_below_drewN | apply below_drew1 | refine below_set ?_ GE1158.out | refine below_set ?_ GE1170.out) | exact HB.out))) : w.heap.size ≤ gb1181)); have n9_ := Aside0.mk ((by rw [hg]; exact Nat.ne_of_lt (blk_lt (g := gb1158) (o := .cells #[.int .i64 t1150, .int .u64 t1151, .string t1152, .slice Ao18 t1153.length co18] 25 (0, 0)) (by (with_reducible repeat (first | refine blk_drewN ?_ _ | refine blk_drew ?_ | refine blk_alloc ?_ _)); exact BK1158.out)) : gb1158 ≠ gb1181)); have n10_ := Aside0.mk ((by rw [hg]; exact Nat.ne_of_gt (blk_lt (g := gb1158) (o := .cells #[.int .i64 t1150, .int .u64 t1151, .string t1152, .slice Ao18 t1153.length co18] 25 (0, 0)) (by (with_reducible repeat (first | refine blk_drewN ?_ _ | refine blk_drew ?_ | refine blk_alloc ?_ _)); exact BK1158.out)) : gb1181 ≠ gb1158)); have n11_ := Aside0.mk ((by rw [hg]; exact Nat.ne_of_lt (blk_lt (g := gb1170) (o := .cells #[.int .i64 t1162, .int .u64 t1163, .string t1164, .slice Ao40 t1165.length co40] 25 (0, 0)) (by (with_reducible repeat (first | refine blk_drewN ?_ _ | refine blk_drew ?_ | refine blk_alloc ?_ _)); exact BK1170.out)) : gb1170 ≠ gb1181)); have n12_ := Aside0.mk ((by rw [hg]; exact Nat.ne_of_gt (blk_lt (g := gb1170) (o := .cells #[.int .i64 t1162, .int .u64 t1163, .string t1164, .slice Ao40 t1165.length co40] 25 (0, 0)) (by (with_reducible repeat (first | refine blk_drewN ?_ _ | refine blk_drew ?_ | refine blk_alloc ?_ _)); exact BK1170.out)) : gb1181 ≠ gb1170)); clear HO_1159003; clear HO_1171003; clear HO1178; clear BK1158; clear BK1170; clear HB; have HO_1159003 := n0_; have HO_1171003 := n1_; have HO1178 := n2_; have BK1158 := n3_; have BK1170 := n4_; have HB := n5_; have BK1181 := n6_; have GW1181 := n7_; have GE1181 := n8_; have NB1158_1181 := n9_; have NB1181_1158 := n10_; have NB1170_1181 := n11_; have NB1181_1170 := n12_; clear n0_ n1_ n2_ n3_ n4_ n5_ n6_ n7_ n8_ n9_ n10_ n11_ n12_; clear hb hbox hg; have hnb55 := NB1181_1158.out; have hnc55 := NB1158_1181.out; have hnb56 := NB1181_1170.out; have hnc56 := NB1170_1181.out; have hcz57_0 : w54.cell? ⟨gb1181, 0, none⟩ = some (.int .i64 0) := (blk_cell BK1181.out 0).trans rfl; have hcz57_1 : w54.cell? ⟨gb1181, 1, none⟩ = some (.int .u64 0) := (blk_cell BK1181.out 1).trans rfl; have hcz57_2 : w54.cell? ⟨gb1181, 2, none⟩ = some (.string (⟨#[]⟩ : ByteArray)) := (blk_cell BK1181.out 2).trans rfl; have hcz57_3 : w54.cell? ⟨gb1181, 3, none⟩ = some (.slice none 0 0) := (blk_cell BK1181.out 3).trans rfl; have hfz57_0 := blk_frozen BK1181.out 0; have hfz57_1 := blk_frozen BK1181.out 1; have hfz57_2 := blk_frozen BK1181.out 2; have hfz57_3 := blk_frozen BK1181.out 3; obtain ⟨Ao58, co58, eo58⟩ := Kd.R_slice HO1178.out; subst eo58))
                  go_ret
                  exact ⟨by first | rfl | (simp [errW_none, errW_some] <;> rfl) | (simp [*, errW_none, errW_some] <;> rfl), by repeat (first | (with_reducible first | exact HB.out | apply below_alloc | apply pw_below_drewN | apply below_drew1 | refine below_set ?_ GE1158.out | refine below_set ?_ GE1170.out | refine below_set ?_ GE1181.out) | exact HB.out)⟩
                 ·rw [if_neg c51] at H
                  exact absurd H (by simp)
                ·rw [if_neg c50] at H
                 exact absurd H (by simp)
            ·rw [if_neg c33] at H
             exact absurd H (by simp)
           ·rw [if_neg c32] at H
            exact absurd H (by simp)
          ·rw [if_neg c31] at H
           exact absurd H (by simp)
      ·rw [if_neg c13] at H
       have c13b0 : (t1157 == 0) = false := beq_eq_false_iff_ne.mpr c13
       have c13b1 : (t1157 != 0) = true := bne_iff_ne.mpr c13
       by_cases c59 : t1156 = 0
       ·rw [if_pos c59] at H
        have c59b0 : (t1156 == 0) = true := beq_iff_eq.mpr c59
        have c59b1 : (t1156 != 0) = false := bne_eq_false_iff_eq.mpr c59
        clear c59
        replace H := Option.bind_eq_some_iff.mp H
        obtain ⟨t1159, A600, H⟩ := H
        replace H : (some t1159) = some r := H
        have A60 := Aside0.mk A600
        clear A600
        obtain rfl := Option.some.inj H
        go_wp2_with (first | ((with_reducible refine gate_callee (f := 22) rfl ?_); refine goesL_ (some 29) rfl rfl Tryd.func22 (by kernel_rfl) rfl #[.int .i64 a2, .int .i64 32] rfl (by (try simp only [List.map_toArray, List.map_cons, List.map_nil]); first | done | rfl | (simp only [List.length_drop, List.length_take]; rfl)) ?_; (with_reducible refine (polyglotkit_Pick.calls a2 32 t1149 _ A11.out).mono ?_); rintro e w' ⟨rfl, ⟨nd, rfl⟩⟩; refine ⟨_, rfl, ?_⟩; (try (rw [drewN_self wc]; generalize hq_ : World.drewN wc _ = wc; have n0_ : Aside0 (Below w.heap.size w wc) := ⟨by rw [← hq_]; exact (by repeat (first | (with_reducible first | exact HB.out | apply below_alloc | apply pw_below_drewN | apply below_drew1) | exact HB.out))⟩; clear HB hq_; have HB := n0_; clear n0_))) | ((with_reducible refine gate_callee (f := 30) rfl ?_); refine goesL_ (some 33) rfl rfl Tryd.func30 (by kernel_rfl) rfl #[.string a0, .int .i64 t1149] rfl (by (try simp only [List.map_toArray, List.map_cons, List.map_nil]); first | done | rfl | (simp only [List.length_drop, List.length_take]; rfl)) ?_; (with_reducible refine (amqvalue_Read.calls a0 t1149 t1150 t1151 t1152 t1153 t1156 t1157 _ ?side1 A12.out).mono ?_); (case side1 => exact HT.out.below (by repeat (first | (with_reducible first | exact HB.out | apply below_alloc | apply pw_below_drewN | apply below_drew1) | exact HB.out))); rintro e w61 ⟨v1154, rfl, ho0, hb⟩; refine ⟨_, rfl, ?_⟩; have n0_ := Aside0.mk (Kd.R_lower ho0 (below_size (by repeat (first | (with_reducible first | exact HB.out | apply below_alloc | apply pw_below_drewN | apply below_drew1) | exact HB.out)))); have n1_ := Aside0.mk (below_step (by repeat (first | (with_reducible first | exact HB.out | apply below_alloc | apply pw_below_drewN | apply below_drew1) | exact HB.out)) hb); clear HB; have HO1155 := n0_; have HB := n1_; clear n0_ n1_; (try clear hb); (try clear hb2); (try clear hk); (try clear hi); (try clear ho0)) | ((with_reducible refine gate_dst (N := 9) rfl ?_); (try (refine gate_guard (by rfl) ?_; dsimp only)); refine box_event ?hg (N := 9) ?hd (cs := #[.int .i64 0, .int .u64 0, .string (⟨#[]⟩ : ByteArray), .slice none 0 0]) (t := 25) ?hr ?_; (case hd => rfl); (case hg => rfl); (case hr => first | (go_simp; done) | (go_simp; rfl)); intro gb1158 hg w62 hbox hb; have n0_ := Aside0.mk (Kd.R_below (Kd.R_elderB (by (with_reducible repeat (first | apply Kd.R_alloc | apply Kd.R_drewN | apply Kd.R_drew)); exact HO1155.out) gb1158 (Nat.le_of_eq hg.symm)) hb); have n1_ := Aside0.mk (below_step (by repeat (first | (with_reducible first | exact HB.out | apply below_alloc | apply pw_below_drewN | apply below_drew1) | exact HB.out)) hb); have n2_ := Aside0.mk (hbox); have n3_ := Aside0.mk ((by rw [hg]; exact (below_size (by repeat (first | (with_reducible first | exact HB.out | apply below_alloc | apply pw_below_drewN | apply below_drew1) | exact HB.out))) : w.heap.size ≤ gb1158)); have n4_ := Aside0.mk ((by rw [hg]; exact (below_size (by repeat (first | (with_reducible first | exact HB.out | apply below_alloc | apply pw_below_drewN | apply below_drew1) | exact HB.out))) : w.heap.size ≤ gb1158)); clear HO1155; clear HB; have HO1155 := n0_; have HB := n1_; have BK1158 := n2_; have GW1158 := n3_; have GE1158 := n4_; clear n0_ n1_ n2_ n3_ n4_; clear hb hbox hg; have hcz63_0 : w62.cell? ⟨gb1158, 0, none⟩ = some (.int .i64 0) := (blk_cell BK1158.out 0).trans rfl; have hcz63_1 : w62.cell? ⟨gb1158, 1, none⟩ = some (.int .u64 0) := (blk_cell BK1158.out 1).trans rfl; have hcz63_2 : w62.cell? ⟨gb1158, 2, none⟩ = some (.string (⟨#[]⟩ : ByteArray)) := (blk_cell BK1158.out 2).trans rfl; have hcz63_3 : w62.cell? ⟨gb1158, 3, none⟩ = some (.slice none 0 0) := (blk_cell BK1158.out 3).trans rfl; have hfz63_0 := blk_frozen BK1158.out 0; have hfz63_1 := blk_frozen BK1158.out 1; have hfz63_2 := blk_frozen BK1158.out 2; have hfz63_3 := blk_frozen BK1158.out 3; obtain ⟨Ao64, co64, eo64⟩ := Kd.R_slice HO1155.out; subst eo64) | (go_at_call 26; (refine (polyglotkit_SameValue.calls kj6 t1150 t1151 t1152 _ _ t1153 0 0 (⟨#[]⟩ : ByteArray) _ _ ([] : List (Vl)) t1159 _ ?side1 ?side2 ?side3 ?side4 A60.out).mono ?_); (case side1 => refine (Kd.R_reads' (e := 25) (base := w.heap.size) (ok := fun k_ => (True ∧ k_ ≠ gb1158)) (n := t1153.length) (c := co64) ?_).2.2; exact (by (with_reducible repeat (first | apply Kd.R_alloc | apply Kd.R_drewN | apply Kd.R_drew)); exact (Kd.R_mono (Kd.R_far (p := ⟨gb1158, 3, none⟩) (Kd.R_far (p := ⟨gb1158, 2, none⟩) (Kd.R_far (p := ⟨gb1158, 1, none⟩) (Kd.R_far (p := ⟨gb1158, 0, none⟩) (Kd.R_mono HO1155.out (fun k_ hk => (⟨hk, hk.2⟩ : _ ∧ k_ ≠ gb1158))) (fun _ hk => hk.2) (.int .i64 t1150)) (fun _ hk => hk.2) (.int .u64 t1151)) (fun _ hk => hk.2) (.string t1152)) (fun _ hk => hk.2) (.slice Ao64 t1153.length co64)) (fun _ h_ => h_.1)))); (case side2 => exact (Kd.R_reads' HO1155.out).2.1); (case side3 => exact Kd.C_nil _ _); (case side4 => exact Nat.le_refl _); rintro e w65 ⟨rfl, hb⟩; have n0_ := Aside0.mk (Kd.R_below (by (with_reducible repeat (first | apply Kd.R_alloc | apply Kd.R_drewN | apply Kd.R_drew)); exact (Kd.R_mono (Kd.R_far (p := ⟨gb1158, 3, none⟩) (Kd.R_far (p := ⟨gb1158, 2, none⟩) (Kd.R_far (p := ⟨gb1158, 1, none⟩) (Kd.R_far (p := ⟨gb1158, 0, none⟩) (Kd.R_mono HO1155.out (fun k_ hk => (⟨hk, hk.2⟩ : _ ∧ k_ ≠ gb1158))) (fun _ hk => hk.2) (.int .i64 t1150)) (fun _ hk => hk.2) (.int .u64 t1151)) (fun _ hk => hk.2) (.string t1152)) (fun _ hk => hk.2) (.slice Ao64 t1153.length co64)) (fun _ h_ => h_.1))) hb); have n1_ := Aside0.mk (blk_below (g := gb1158) (o := .cells #[.int .i64 t1150, .int .u64 t1151, .string t1152, .slice Ao64 t1153.length co64] 25 (0, 0)) (by (with_reducible repeat (first | refine blk_drewN ?_ _ | refine blk_drew ?_ | refine blk_alloc ?_ _)); refine blk_put (cs := #[.int .i64 t1150, .int .u64 t1151, .string t1152, .slice none 0 0]) ?_ 3 _ rfl; (with_reducible repeat (first | refine blk_drewN ?_ _ | refine blk_drew ?_ | refine blk_alloc ?_ _)); refine blk_put (cs := #[.int .i64 t1150, .int .u64 t1151, .string (⟨#[]⟩ : ByteArray), .slice none 0 0]) ?_ 2 _ rfl; (with_reducible repeat (first | refine blk_drewN ?_ _ | refine blk_drew ?_ | refine blk_alloc ?_ _)); refine blk_put (cs := #[.int .i64 t1150, .int .u64 0, .string (⟨#[]⟩ : ByteArray), .slice none 0 0]) ?_ 1 _ rfl; (with_reducible repeat (first | refine blk_drewN ?_ _ | refine blk_drew ?_ | refine blk_alloc ?_ _)); refine blk_put (cs := #[.int .i64 0, .int .u64 0, .string (⟨#[]⟩ : ByteArray), .slice none 0 0]) ?_ 0 _ rfl; (with_reducible repeat (first | refine blk_drewN ?_ _ | refine blk_drew ?_ | refine blk_alloc ?_ _)); exact BK1158.out) hb); have n2_ := Aside0.mk (below_step (by repeat (first | (with_reducible first | exact HB.out | apply below_alloc | apply pw_below_drewN | apply below_drew1 | refine below_set ?_ GE1158.out) | exact HB.out)) hb); clear HO1155; clear BK1158; clear HB; have HO1155 := n0_; have BK1158 := n1_; have HB := n2_; clear n0_ n1_ n2_; (try clear hb); (try clear hb2); (try clear hk); (try clear hi)))
        go_ret
        exact ⟨by first | rfl | (simp [errW_none, errW_some] <;> rfl) | (simp [*, errW_none, errW_some] <;> rfl), by repeat (first | (with_reducible first | exact HB.out | apply below_alloc | apply pw_below_drewN | apply below_drew1 | refine below_set ?_ GE1158.out) | exact HB.out)⟩
       ·rw [if_neg c59] at H
        exact absurd H (by simp)
  ·replace c6 := Bool.eq_false_iff.mpr c6
   subst c6
   have H1 : (none) = some r := by rw [if_neg (show ¬ (false = true) by decide)] at H; exact H
   clear H
   have H := H1
   clear H1
   exact absurd H (by simp)
end Go.Proofs.YtekpofpgkokoiaaDoor.Q
