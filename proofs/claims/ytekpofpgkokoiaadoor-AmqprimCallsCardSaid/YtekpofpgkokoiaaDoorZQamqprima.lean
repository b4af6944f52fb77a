/- A part of this claim: what its theorem leans on. -/
import Derived.Test.YtekpofpgkokoiaaDoorZQ0
import Derived.Test.YtekpofpgkokoiaaDoorZZz
import Derived.Test.YtekpofpgkokoiaaDoorZQoctetaD
import Derived.Test.YtekpofpgkokoiaaDoorZQamqprimaD
import Derived.Test.YtekpofpgkokoiaaDoorZQocteta
namespace Go.Proofs.YtekpofpgkokoiaaDoor.Q
open Go.RowKit Go.Proofs.YtekpofpgkokoiaaDoor.M Go.Proofs.YtekpofpgkokoiaaDoorW.PrintWords Go.Proofs.YtekpofpgkokoiaaDoorW.PrintLast Go.Proofs.YtekpofpgkokoiaaDoorW.PrintMore
attribute [local go_sem] max2_int min2_int max_two min_two max_three min_three max_four min_four
set_option linter.unusedVariables false
set_option linter.unusedSimpArgs false
set_option maxHeartbeats 8000000 in
set_option maxRecDepth 100000 in
theorem amqprim_bits.calls (k : Nat) (a0 : Int) (r1 : Int) (r2 : Bool) (w : World) (h : amqprim_bits.f k a0 = some (r1, r2)) :
    Calls Tryd.prog 79 #[.int .i64 a0] w fun e w' => e = .returned (.tuple #[.int .i64 r1, .bool r2]) ∧ Drawn0 w w' := by
  have H : (if a0 = 2 then (some (1, false)) else (if a0 = 3 then (some (8, false)) else (if a0 = 4 then (some (16, false)) else (if a0 = 5 then (amqprim_bits.j0 k a0 (a0 == 5)) else (if a0 = 11 then (amqprim_bits.j0 k a0 (a0 == 11)) else (if a0 = 13 then (amqprim_bits.j0 k a0 (a0 == 13)) else (amqprim_bits.j0 k a0 (a0 == 16)))))))) = some (r1, r2) := h
  clear h
  by_cases c2 : a0 = 2
  ·rw [if_pos c2] at H
   have c2b0 : (a0 == 2) = true := beq_iff_eq.mpr c2
   have c2b1 : (a0 != 2) = false := bne_eq_false_iff_eq.mpr c2
   clear c2
   simp only [Option.some.injEq, Prod.mk.injEq] at H
   obtain ⟨rfl, rfl⟩ := H
   go_enter Tryd.func79, Tryd.ntmps79
   go_wp2
   go_ret2
   exact ⟨zt, zd⟩
  ·rw [if_neg c2] at H
   have c2b0 : (a0 == 2) = false := beq_eq_false_iff_ne.mpr c2
   have c2b1 : (a0 != 2) = true := bne_iff_ne.mpr c2
   by_cases c3 : a0 = 3
   ·rw [if_pos c3] at H
    have c3b0 : (a0 == 3) = true := beq_iff_eq.mpr c3
    have c3b1 : (a0 != 3) = false := bne_eq_false_iff_eq.mpr c3
    clear c3
    simp only [Option.some.injEq, Prod.mk.injEq] at H
    obtain ⟨rfl, rfl⟩ := H
    go_enter Tryd.func79, Tryd.ntmps79
    go_wp2
    go_ret2
    exact ⟨zt, zd⟩
   ·rw [if_neg c3] at H
    have c3b0 : (a0 == 3) = false := beq_eq_false_iff_ne.mpr c3
    have c3b1 : (a0 != 3) = true := bne_iff_ne.mpr c3
    by_cases c4 : a0 = 4
    ·rw [if_pos c4] at H
     have c4b0 : (a0 == 4) = true := beq_iff_eq.mpr c4
     have c4b1 : (a0 != 4) = false := bne_eq_false_iff_eq.mpr c4
     clear c4
     simp only [Option.some.injEq, Prod.mk.injEq] at H
     obtain ⟨rfl, rfl⟩ := H
     go_enter Tryd.func79, Tryd.ntmps79
     go_wp2
     go_ret2
     exact ⟨zt, zd⟩
    ·rw [if_neg c4] at H
     have c4b0 : (a0 == 4) = false := beq_eq_false_iff_ne.mpr c4
     have c4b1 : (a0 != 4) = true := bne_iff_ne.mpr c4
     have HC5 := Aside0.mk H
     clear H
     go_enter Tryd.func79, Tryd.ntmps79
     go_upto_if 11 with (fail)
     go_cut [11] (fun v11 wc => ∃ (kq : Nat) (x11_4 : Bool), v11 = .bool x11_4 ∧ Aside0 (amqprim_bits.j0 kq a0 x11_4 = some (r1, r2)) ∧ Aside0 (kq ≤ k) ∧ Drawn0 w wc)
     case first =>
      have H := HC5.out
      clear HC5
      by_cases c6 : a0 = 5
      ·rw [if_pos c6] at H
       have c6b0 : (a0 == 5) = true := beq_iff_eq.mpr c6
       have c6b1 : (a0 != 5) = false := bne_eq_false_iff_eq.mpr c6
       clear c6
       (first | rw [c6b0] | (simp only [i64_w, i32_w]; rw [c6b0]) | skip)
       have H' := Aside0.mk H
       clear H
       go_wp2
       go_meet
       case rel => exact ⟨_, ((a0 == 5)), zt, H', ⟨zo⟩, zd⟩
      ·rw [if_neg c6] at H
       have c6b0 : (a0 == 5) = false := beq_eq_false_iff_ne.mpr c6
       have c6b1 : (a0 != 5) = true := bne_iff_ne.mpr c6
       (first | rw [c6b0] | (simp only [i64_w, i32_w]; rw [c6b0]) | skip)
       by_cases c7 : a0 = 11
       ·rw [if_pos c7] at H
        have c7b0 : (a0 == 11) = true := beq_iff_eq.mpr c7
        have c7b1 : (a0 != 11) = false := bne_eq_false_iff_eq.mpr c7
        clear c7
        have H' := Aside0.mk H
        clear H
        go_wp2
        go_meet
        case rel => exact ⟨_, ((a0 == 11)), zt, H', ⟨zo⟩, zd⟩
       ·rw [if_neg c7] at H
        have c7b0 : (a0 == 11) = false := beq_eq_false_iff_ne.mpr c7
        have c7b1 : (a0 != 11) = true := bne_iff_ne.mpr c7
        by_cases c8 : a0 = 13
        ·rw [if_pos c8] at H
         have c8b0 : (a0 == 13) = true := beq_iff_eq.mpr c8
         have c8b1 : (a0 != 13) = false := bne_eq_false_iff_eq.mpr c8
         clear c8
         have H' := Aside0.mk H
         clear H
         go_wp2
         go_meet
         case rel => exact ⟨_, ((a0 == 13)), zt, H', ⟨zo⟩, zd⟩
        ·rw [if_neg c8] at H
         have c8b0 : (a0 == 13) = false := beq_eq_false_iff_ne.mpr c8
         have c8b1 : (a0 != 13) = true := bne_iff_ne.mpr c8
         have H' := Aside0.mk H
         clear H
         go_wp2
         go_meet
         case rel => exact ⟨_, ((a0 == 16)), zt, H', ⟨zo⟩, zd⟩
     case rest =>
      clear HC5
      try clear c2
      try clear c2b0
      try clear c2b1
      try clear c3
      try clear c3b0
      try clear c3b1
      try clear c4
      try clear c4b0
      try clear c4b1
      obtain ⟨kq, x11_4, rfl, HA, HJ4, ⟨mc4, rfl⟩⟩ := hcut
      cases kq with
      | zero => exact absurd HA.out (by simp [amqprim_bits.j0])
      | succ kj4 =>
       have H := HA.out
       clear HA
       simp only [amqprim_bits.j0] at H
       by_cases c9 : x11_4 = true
       ·subst c9
        replace H := zyes H
        simp only [Option.some.injEq, Prod.mk.injEq] at H
        obtain ⟨rfl, rfl⟩ := H
        go_wp2
        go_ret2
        exact ⟨zt, zd⟩
       ·replace c9 := Bool.eq_false_iff.mpr c9
        subst c9
        replace H := zno H
        have HC10 := Aside0.mk H
        clear H
        go_upto_if 16 with (fail)
        go_cut [16] (fun v16 wc => ∃ (kq : Nat) (x16_9 : Bool), v16 = .bool x16_9 ∧ Aside0 (amqprim_bits.j1 kq a0 x16_9 = some (r1, r2)) ∧ Aside0 (kq ≤ kj4) ∧ Drawn0 w wc)
        case first =>
         have H := HC10.out
         clear HC10
         by_cases c11 : a0 = 6
         ·rw [if_pos c11] at H
          have c11b0 : (a0 == 6) = true := beq_iff_eq.mpr c11
          have c11b1 : (a0 != 6) = false := bne_eq_false_iff_eq.mpr c11
          clear c11
          (first | rw [c11b0] | (simp only [i64_w, i32_w]; rw [c11b0]) | skip)
          have H' := Aside0.mk H
          clear H
          go_wp2
          go_meet
          case rel => exact ⟨_, ((a0 == 6)), zt, H', ⟨zoj HJ4.out⟩, zd⟩
         ·rw [if_neg c11] at H
          have c11b0 : (a0 == 6) = false := beq_eq_false_iff_ne.mpr c11
          have c11b1 : (a0 != 6) = true := bne_iff_ne.mpr c11
          (first | rw [c11b0] | (simp only [i64_w, i32_w]; rw [c11b0]) | skip)
          by_cases c12 : a0 = 12
          ·rw [if_pos c12] at H
           have c12b0 : (a0 == 12) = true := beq_iff_eq.mpr c12
           have c12b1 : (a0 != 12) = false := bne_eq_false_iff_eq.mpr c12
           clear c12
           have H' := Aside0.mk H
           clear H
           go_wp2
           go_meet
           case rel => exact ⟨_, ((a0 == 12)), zt, H', ⟨zoj HJ4.out⟩, zd⟩
          ·rw [if_neg c12] at H
           have c12b0 : (a0 == 12) = false := beq_eq_false_iff_ne.mpr c12
           have c12b1 : (a0 != 12) = true := bne_iff_ne.mpr c12
           have H' := Aside0.mk H
           clear H
           go_wp2
           go_meet
           case rel => exact ⟨_, ((a0 == 14)), zt, H', ⟨zoj HJ4.out⟩, zd⟩
        case rest =>
         clear HC10
         try clear c2
         try clear c2b0
         try clear c2b1
         try clear c3
         try clear c3b0
         try clear c3b1
         try clear c4
         try clear c4b0
         try clear c4b1
         try clear c9
         obtain ⟨kq, x16_9, rfl, HA, HJ9, ⟨mc9, rfl⟩⟩ := hcut
         cases kq with
         | zero => exact absurd HA.out (by simp [amqprim_bits.j1])
         | succ kj9 =>
          have H := HA.out
          clear HA
          simp only [amqprim_bits.j1] at H
          by_cases c13 : x16_9 = true
          ·subst c13
           replace H := zyes H
           simp only [Option.some.injEq, Prod.mk.injEq] at H
           obtain ⟨rfl, rfl⟩ := H
           go_wp2
           go_ret2
           exact ⟨zt, zd⟩
          ·replace c13 := Bool.eq_false_iff.mpr c13
           subst c13
           replace H := zno H
           by_cases c14 : a0 = 7
           ·rw [if_pos c14] at H
            have c14b0 : (a0 == 7) = true := beq_iff_eq.mpr c14
            have c14b1 : (a0 != 7) = false := bne_eq_false_iff_eq.mpr c14
            clear c14
            simp only [Option.some.injEq, Prod.mk.injEq] at H
            obtain ⟨rfl, rfl⟩ := H
            go_wp2
            go_ret2
            exact ⟨zt, zd⟩
           ·rw [if_neg c14] at H
            have c14b0 : (a0 == 7) = false := beq_eq_false_iff_ne.mpr c14
            have c14b1 : (a0 != 7) = true := bne_iff_ne.mpr c14
            by_cases c15 : a0 = 8
            ·rw [if_pos c15] at H
             have c15b0 : (a0 == 8) = true := beq_iff_eq.mpr c15
             have c15b1 : (a0 != 8) = false := bne_eq_false_iff_eq.mpr c15
             clear c15
             simp only [Option.some.injEq, Prod.mk.injEq] at H
             obtain ⟨rfl, rfl⟩ := H
             go_wp2
             go_ret2
             exact ⟨zt, zd⟩
            ·rw [if_neg c15] at H
             have c15b0 : (a0 == 8) = false := beq_eq_false_iff_ne.mpr c15
             have c15b1 : (a0 != 8) = true := bne_iff_ne.mpr c15
             by_cases c16 : a0 = 9
             ·rw [if_pos c16] at H
              have c16b0 : (a0 == 9) = true := beq_iff_eq.mpr c16
              have c16b1 : (a0 != 9) = false := bne_eq_false_iff_eq.mpr c16
              clear c16
              simp only [Option.some.injEq, Prod.mk.injEq] at H
              obtain ⟨rfl, rfl⟩ := H
              go_wp2
              go_ret2
              exact ⟨zt, zd⟩
             ·rw [if_neg c16] at H
              have c16b0 : (a0 == 9) = false := beq_eq_false_iff_ne.mpr c16
              have c16b1 : (a0 != 9) = true := bne_iff_ne.mpr c16
              by_cases c17 : a0 = 10
              ·rw [if_pos c17] at H
               have c17b0 : (a0 == 10) = true := beq_iff_eq.mpr c17
               have c17b1 : (a0 != 10) = false := bne_eq_false_iff_eq.mpr c17
               clear c17
               simp only [Option.some.injEq, Prod.mk.injEq] at H
               obtain ⟨rfl, rfl⟩ := H
               go_wp2
               go_ret2
               exact ⟨zt, zd⟩
              ·rw [if_neg c17] at H
               have c17b0 : (a0 == 10) = false := beq_eq_false_iff_ne.mpr c17
               have c17b1 : (a0 != 10) = true := bne_iff_ne.mpr c17
               by_cases c18 : a0 = 17
               ·rw [if_pos c18] at H
                have c18b0 : (a0 == 17) = true := beq_iff_eq.mpr c18
                have c18b1 : (a0 != 17) = false := bne_eq_false_iff_eq.mpr c18
                clear c18
                simp only [Option.some.injEq, Prod.mk.injEq] at H
                obtain ⟨rfl, rfl⟩ := H
                go_wp2
                go_ret2
                exact ⟨zt, zd⟩
               ·rw [if_neg c18] at H
                have c18b0 : (a0 == 17) = false := beq_eq_false_iff_ne.mpr c18
                have c18b1 : (a0 != 17) = true := bne_iff_ne.mpr c18
                simp only [Option.some.injEq, Prod.mk.injEq] at H
                obtain ⟨rfl, rfl⟩ := H
                go_wp2
                go_ret2
                exact ⟨zt, zd⟩
set_option maxHeartbeats 8000000 in
set_option maxRecDepth 100000 in
theorem amqprim_widen.calls (k : Nat) (a0_0 : Int) (a0_1 : Int) (a0_2 : Int) (a0_3 : Bool) (a0_4 : Bool) (a1 : Int) (r : Int) (w : World) (h : amqprim_widen.f k a0_0 a0_1 a0_2 a0_3 a0_4 a1 = some r) :
    Calls Tryd.prog 98 #[.agg #[.int .i64 a0_0, .int .i64 a0_1, .int .i64 a0_2, .bool a0_3, .bool a0_4], .int .u64 a1] w fun e w' => e = .returned (.int .u64 r) ∧ Below w.heap.size w w' := by
  have hu34 := Tryd.underlying34
  have HB := Aside0.mk (Below.refl w.heap.size w)
  have H : ((amqprim_bits.f k a0_1).bind fun bt582 => (if bt582.2 = true then (if a0_2 > 0 then (if 0 ≤ (wrap64 (64 - (wrap64 (8 * a0_2)))) then (some (IntKind.u64.wrap (shr .i64 (wrap64 (shl .u64 a1 (wrap64 (64 - (wrap64 (8 * a0_2)))))) (wrap64 (64 - (wrap64 (8 * a0_2))))))) else (none)) else (some a1)) else (some a1))) = some r := h
  clear h
  obtain ⟨⟨t582, t583⟩, A3, H⟩ := zbd H
  dsimp only at H
  by_cases c4 : t583 = true
  ·subst c4
   replace H := zyes H
   by_cases c5 : a0_2 > 0
   ·rw [if_pos c5] at H
    have c5b0 : decide (0 < a0_2) = true := decide_eq_true c5
    clear c5
    obtain ⟨ji6, hji6⟩ : ∃ j_ : Int, (wrap64 (64 - (wrap64 (8 * a0_2)))) = j_ := ⟨_, rfl⟩
    replace H : (if 0 ≤ (ji6) then (some (IntKind.u64.wrap (shr .i64 (wrap64 (shl .u64 a1 (ji6))) (ji6)))) else (none)) = some r := by first | (rw [hji6] at H; exact H) | (simp only [hji6] at H ⊢; exact H)
    (try rw [hji6] at A3)
    have hji6w : (IntKind.i64.wrap (64 - (wrap64 (8 * a0_2)))) = ji6 := (i64_w _).trans hji6
    by_cases c7 : 0 ≤ (ji6)
    ·rw [if_pos c7] at H
     have c7b0 := eq_true c7
     have c7b1 : decide (0 ≤ (ji6)) = true := decide_eq_true c7
     clear c7
     obtain ⟨ji8, hji8⟩ : ∃ j_ : Int, (shl .u64 a1 (ji6)) = j_ := ⟨_, rfl⟩
     replace H : (some (IntKind.u64.wrap (shr .i64 (wrap64 (ji8)) (ji6)))) = some r := by first | (rw [hji8] at H; exact H) | (simp only [hji8] at H ⊢; exact H)
     (try rw [hji8] at A3)
     have hji8_ : (IntKind.u64.wrap (a1 * 2 ^ min (ji6).toNat 64)) = ji8 := hji8
     have hji8z : (ji6) ≤ 64 → (IntKind.u64.wrap (a1 * 2 ^ (ji6).toNat)) = ji8 := shl_small hji8
     have c9b0 := eq_true (of_decide_eq_true (by first | (with_reducible assumption) | assumption) : 0 ≤ (ji6))
     obtain ⟨ji10, hji10⟩ : ∃ j_ : Int, (shr .i64 (wrap64 (ji8)) (ji6)) = j_ := ⟨_, rfl⟩
     replace H : (some (IntKind.u64.wrap (ji10))) = some r := by first | (rw [hji10] at H; exact H) | (simp only [hji10] at H ⊢; exact H)
     (try rw [hji10] at A3)
     have hji10_ : ((wrap64 (ji8)) / 2 ^ min (ji6).toNat 64) = ji10 := hji10
     have hji10z : (ji6) ≤ 64 → ((wrap64 (ji8)) / 2 ^ (ji6).toNat) = ji10 := shr_small hji10
     obtain rfl := Option.some.inj H
     go_enter Tryd.func98, Tryd.ntmps98
     go_wp2_with (first | ((with_reducible refine gate_dst (N := 2) rfl ?_); refine box_event rfl (N := 2) rfl (cs := #[.int .i64 a0_0, .int .i64 a0_1, .int .i64 a0_2, .bool a0_3, .bool a0_4]) (t := 34) zh ?_; intro gb581 hg w11 hbox hb; have BK581 := Aside0.mk (hbox); have GW581 := Aside0.mk ((zge (w := w) hg)); have GE581 := Aside0.mk ((zge (w := w) hg)); replace HB := Aside0.mk (below_step zb hb); clear hb hbox hg; obtain ⟨hcz12_0, hcz12_1, hcz12_2, hcz12_3, hcz12_4, hfz12_0, hfz12_1, hfz12_2, hfz12_3, hfz12_4⟩ := cz5 BK581.out) | ((with_reducible refine gate_callee (f := 79) rfl ?_); refine goesL_ (some 11) rfl rfl Tryd.func79 (by kernel_rfl) rfl #[.int .i64 a0_1] rfl za ?_; (with_reducible refine (amqprim_bits.calls k a0_1 t582 true _ A3.out).mono ?_); rintro e w' ⟨rfl, ⟨nd, rfl⟩⟩; refine ⟨_, rfl, ?_⟩))
     go_ret
     exact ⟨by first | rfl | (simp [errW_none, errW_some] <;> rfl) | (simp only [← hji6, ← hji8, ← hji10]; first | rfl | (simp [errW_none, errW_some] <;> rfl)) | (simp [*, errW_none, errW_some] <;> rfl), zb⟩
    ·rw [if_neg c7] at H
     exact absurd H (by simp)
   ·rw [if_neg c5] at H
    have c5b0 : decide (0 < a0_2) = false := decide_eq_false c5
    clear c5
    obtain rfl := Option.some.inj H
    go_enter Tryd.func98, Tryd.ntmps98
    go_wp2_with (first | ((with_reducible refine gate_dst (N := 2) rfl ?_); refine box_event rfl (N := 2) rfl (cs := #[.int .i64 a0_0, .int .i64 a0_1, .int .i64 a0_2, .bool a0_3, .bool a0_4]) (t := 34) zh ?_; intro gb581 hg w13 hbox hb; have BK581 := Aside0.mk (hbox); have GW581 := Aside0.mk ((zge (w := w) hg)); have GE581 := Aside0.mk ((zge (w := w) hg)); replace HB := Aside0.mk (below_step zb hb); clear hb hbox hg; obtain ⟨hcz14_0, hcz14_1, hcz14_2, hcz14_3, hcz14_4, hfz14_0, hfz14_1, hfz14_2, hfz14_3, hfz14_4⟩ := cz5 BK581.out) | ((with_reducible refine gate_callee (f := 79) rfl ?_); refine goesL_ (some 11) rfl rfl Tryd.func79 (by kernel_rfl) rfl #[.int .i64 a0_1] rfl za ?_; (with_reducible refine (amqprim_bits.calls k a0_1 t582 true _ A3.out).mono ?_); rintro e w' ⟨rfl, ⟨nd, rfl⟩⟩; refine ⟨_, rfl, ?_⟩))
    go_ret
    exact ⟨ze, zb⟩
  ·replace c4 := Bool.eq_false_iff.mpr c4
   subst c4
   replace H := zno H
   obtain rfl := Option.some.inj H
   go_enter Tryd.func98, Tryd.ntmps98
   go_wp2_with (first | ((with_reducible refine gate_dst (N := 2) rfl ?_); refine box_event rfl (N := 2) rfl (cs := #[.int .i64 a0_0, .int .i64 a0_1, .int .i64 a0_2, .bool a0_3, .bool a0_4]) (t := 34) zh ?_; intro gb581 hg w15 hbox hb; have BK581 := Aside0.mk (hbox); have GW581 := Aside0.mk ((zge (w := w) hg)); have GE581 := Aside0.mk ((zge (w := w) hg)); replace HB := Aside0.mk (below_step zb hb); clear hb hbox hg; obtain ⟨hcz16_0, hcz16_1, hcz16_2, hcz16_3, hcz16_4, hfz16_0, hfz16_1, hfz16_2, hfz16_3, hfz16_4⟩ := cz5 BK581.out) | ((with_reducible refine gate_callee (f := 79) rfl ?_); refine goesL_ (some 11) rfl rfl Tryd.func79 (by kernel_rfl) rfl #[.int .i64 a0_1] rfl za ?_; (with_reducible refine (amqprim_bits.calls k a0_1 t582 false _ A3.out).mono ?_); rintro e w' ⟨rfl, ⟨nd, rfl⟩⟩; refine ⟨_, rfl, ?_⟩))
   go_ret
   exact ⟨ze, zb⟩
def amqprim_Get.T6 : Bool × List (List Nat × List Nat) := (true, [([], []), ([], []), ([], []), ([2], [2]), ([1, 3], [1, 3]), ([0, 4, 4], [0, 4]), ([0, 1, 2, 3, 4, 5], []), ([6, 5, 5, 0, 1, 2, 3, 4, 5], [5, 6])])
def amqprim_Get.B6 : List Nat := [0, 0, 0, 4, 14, 31, 63, 127]
theorem amqprim_Get.tab6 : rtab .any (opsOf Tryd.f37 6) = amqprim_Get.T6 := by kernel_rfl
theorem amqprim_Get.bits6 : waitsOk amqprim_Get.T6.2 amqprim_Get.B6 = true := by kernel_rfl
set_option maxHeartbeats 8000000 in
set_option maxRecDepth 100000 in
theorem amqprim_Get.calls (k : Nat) (a0 : Int) (a1 : ByteArray) (r1 : Int) (r2 : Int) (r3 : ByteArray) (r4 : List (Vl)) (r5 : Int) (r6 : Int) (w : World) (hT : Tb w) (h : amqprim_Get.f k a0 a1 = some (r1, r2, r3, r4, r5, r6)) :
    Calls Tryd.prog 37 #[.int .i64 a0, .string a1] w fun e w' => ∃ v3_ : Value, e = .returned (.tuple #[.agg #[.int .i64 r1, .int .u64 r2, .string r3, v3_], .int .i64 r5, .int .i64 r6]) ∧ Kd.R kV 25 w' w.heap.size (fun _ => True) v3_ r4 ∧ Below w.heap.size w w' := by
  have hu25 := Tryd.underlying25
  have hu34 := Tryd.underlying34
  have HB := Aside0.mk (Below.refl w.heap.size w)
  have HT := Aside0.mk hT
  clear hT
  have H : ((amqprim_Of.f a0).bind fun bt585 => (if bt585.2.2.2.2.2 = true then (amqprim_Get.j0 k a1 bt585.2.2.2.2.1 0 0 (⟨#[]⟩ : ByteArray) bt585.1 bt585.2.1 bt585.2.2.1 bt585.2.2.2.1 bt585.2.2.2.2.1) else (amqprim_Get.j0 k a1 true 0 0 (⟨#[]⟩ : ByteArray) bt585.1 bt585.2.1 bt585.2.2.1 bt585.2.2.2.1 bt585.2.2.2.2.1))) = some (r1, r2, r3, r4, r5, r6) := h
  clear h
  obtain ⟨⟨t585, t586, t587, t588, t589, t590⟩, A3, H⟩ := zbd H
  dsimp only at H
  have HC4 := Aside0.mk H
  clear H
  go_enter Tryd.func37, Tryd.ntmps37
  go_upto_region 2 with (first | ((with_reducible refine gate_dst (N := 4) rfl ?_); refine box_event rfl (N := 4) rfl (cs := #[.int .i64 0, .int .u64 0, .string (⟨#[]⟩ : ByteArray), .slice none 0 0]) (t := 25) zh ?_; intro gb584 hg w5 hbox hb; have BK584 := Aside0.mk (hbox); have GW584 := Aside0.mk ((zge (w := w) hg)); have GE584 := Aside0.mk ((zge (w := w) hg)); replace HB := Aside0.mk (below_step zb hb); clear hb hbox hg) | ((with_reducible refine gate_callee (f := 23) rfl ?_); refine goesL_ (some 13) rfl rfl Tryd.func23 (by kernel_rfl) rfl #[.int .i64 a0] rfl za ?_; (with_reducible refine (amqprim_Of.calls a0 t585 t586 t587 t588 t589 t590 _ A3.out).mono ?_); rintro e w6 ⟨rfl, hb⟩; refine ⟨_, rfl, ?_⟩; replace BK584 := Aside0.mk (zbb BK584.out hb); replace HB := Aside0.mk (below_step zb hb); (try clear hb); (try clear hb2); (try clear hk); (try clear hi)) | ((with_reducible refine gate_dst (N := 7) rfl ?_); refine box_event rfl (N := 7) rfl (cs := #[.int .i64 0, .int .i64 0, .int .i64 0, .bool false, .bool false]) (t := 34) zh ?_; intro gb591 hg w7 hbox hb; have BK591 := Aside0.mk (hbox); have GW591 := Aside0.mk ((zge (w := w) hg)); have GE591 := Aside0.mk ((zge (w := w) hg)); have NB584_591 := Aside0.mk ((znl BK584.out hg)); have NB591_584 := Aside0.mk ((zng BK584.out hg)); replace BK584 := Aside0.mk (zbb BK584.out hb); replace HB := Aside0.mk (below_step zb hb); clear hb hbox hg; have hnb8 := NB591_584.out; have hnc8 := NB584_591.out; obtain ⟨hcz9_0, hcz9_1, hcz9_2, hcz9_3, hcz9_4, hfz9_0, hfz9_1, hfz9_2, hfz9_3, hfz9_4⟩ := cz5 BK591.out))
  (try simp only [Act.put, List.setIfInBounds_toArray, List.set_cons_zero, List.set_cons_succ])
  go_cut [21] (fun v21 wc => ∃ (kq : Nat) (x21_3 : Bool), v21 = .bool x21_3 ∧ Aside0 (amqprim_Get.j0 kq a1 x21_3 0 0 (⟨#[]⟩ : ByteArray) t585 t586 t587 t588 t589 = some (r1, r2, r3, r4, r5, r6)) ∧ Aside0 (kq ≤ k) ∧ Aside0 (wc.heap[gb584]? = some (.cells #[.int .i64 0, .int .u64 0, .string (⟨#[]⟩ : ByteArray), (.slice none 0 0)] 25 (0, 0))) ∧ Aside0 (wc.heap[gb591]? = some (.cells #[.int .i64 t585, .int .i64 t586, .int .i64 t587, .bool t588, .bool t589] 34 (0, 0))) ∧ Aside0 (Below w.heap.size w wc))
  case first =>
   have H := HC4.out
   clear HC4
   by_cases c10 : t590 = true
   ·subst c10
    replace H := zyes H
    have H' := Aside0.mk H
    clear H
    have hnb11 := NB591_584.out
    have hnc11 := NB584_591.out
    obtain ⟨hcz12_0, hcz12_1, hcz12_2, hcz12_3, hcz12_4, hfz12_0, hfz12_1, hfz12_2, hfz12_3, hfz12_4⟩ := cz5 BK591.out
    go_wp2
    go_meet
    case rel => exact ⟨_, (t589), zt, H', ⟨zo⟩, ⟨zk BK584.out⟩, ⟨zp5 BK591.out _ _ _ _ _⟩, ⟨zb⟩⟩
   ·replace c10 := Bool.eq_false_iff.mpr c10
    subst c10
    replace H := zno H
    have H' := Aside0.mk H
    clear H
    go_wp2
    go_meet
    case rel => exact ⟨_, (true), zt, H', ⟨zo⟩, ⟨zk BK584.out⟩, ⟨zp5 BK591.out _ _ _ _ _⟩, ⟨zb⟩⟩
  case rest =>
   clear HC4
   try clear hcz9_0
   try clear hcz9_1
   try clear hcz9_2
   try clear hcz9_3
   try clear hcz9_4
   try clear hfz9_0
   try clear hfz9_1
   try clear hfz9_2
   try clear hfz9_3
   try clear hfz9_4
   obtain ⟨kq, x21_3, rfl, HA, HJ3, BK584, BK591, HB⟩ := hcut
   cases kq with
   | zero => exact absurd HA.out (by simp [amqprim_Get.j0])
   | succ kj3 =>
    have H := HA.out
    clear HA
    simp only [amqprim_Get.j0] at H
    by_cases c13 : x21_3 = true
    ·subst c13
     replace H := zyes H
     simp only [Option.some.injEq, Prod.mk.injEq] at H
     obtain ⟨rfl, rfl, rfl, rfl, rfl, rfl⟩ := H
     have hnb14 := NB584_591.out
     have hnc14 := NB591_584.out
     obtain ⟨hcz15_0, hcz15_1, hcz15_2, hcz15_3, hfz15_0, hfz15_1, hfz15_2, hfz15_3⟩ := cz4 BK584.out
     go_wp2
     refine bodyPost_ret (results_ctt rfl _ _ gb584 25 #[.int .i64 0, .int .u64 0, .string (⟨#[]⟩ : ByteArray), .slice none 0 0] (0, 0) _ rfl (zp4 BK584.out _ _ _ _) Tryd.underlying25 rfl (by kernel_rfl)) rfl ?_
     exact ⟨_, ze, zn, zb⟩
    ·replace c13 := Bool.eq_false_iff.mpr c13
     subst c13
     replace H := zno H
     obtain ⟨⟨t592, t593, t594⟩, A16, H⟩ := zbd H
     dsimp only at H
     have HC17 := Aside0.mk H
     clear H
     go_upto_block 0 with (first | ((with_reducible refine gate_callee (f := 94) rfl ?_); refine goesL_ (some 24) rfl rfl Tryd.func94 (by kernel_rfl) rfl #[.string a1] rfl za ?_; (with_reducible refine (octet_New.calls a1 t592 t593 t594 w _ ?side1 A16.out).mono ?_); (case side1 => repeat (first | (with_reducible first | exact HB.out | apply below_alloc | apply pw_below_drewN | apply below_drew1 | refine below_set ?_ GE584.out | refine below_set ?_ GE591.out) | exact HB.out)); rintro e w18 ⟨g595, rfl, hi, hb, hb2⟩; refine ⟨_, rfl, ?_⟩; have HI595 := Aside0.mk (hi); have NB595_584 := Aside0.mk (IsS141.ne_blk hi (zbb BK584.out hb2) (by decide)); have NB584_595 := Aside0.mk (Ne.symm (IsS141.ne_blk hi (zbb BK584.out hb2) (by decide))); replace BK584 := Aside0.mk (zbb BK584.out hb2); have NB595_591 := Aside0.mk (IsS141.ne_blk hi (zbb BK591.out hb2) (by decide)); have NB591_595 := Aside0.mk (Ne.symm (IsS141.ne_blk hi (zbb BK591.out hb2) (by decide))); replace BK591 := Aside0.mk (zbb BK591.out hb2); replace HB := Aside0.mk (hb); (try clear hb); (try clear hb2); (try clear hk); (try clear hi); have hnb19 := NB591_584.out; have hnc19 := NB584_591.out; have hnb20 := NB591_595.out; have hnc20 := NB595_591.out; obtain ⟨hcz21_0, hcz21_1, hcz21_2, hcz21_3, hcz21_4, hfz21_0, hfz21_1, hfz21_2, hfz21_3, hfz21_4⟩ := cz5 BK591.out; have hnb22 := NB584_595.out; have hnc22 := NB595_584.out; obtain ⟨hcz23_0, hcz23_1, hcz23_2, hcz23_3, hfz23_0, hfz23_1, hfz23_2, hfz23_3⟩ := cz4 BK584.out))
     (try simp only [Act.put, List.setIfInBounds_toArray, List.set_cons_zero, List.set_cons_succ])
     go_cut [] (fun wc => ∃ (kq : Nat) (x585000_16 : Int) (x585001_16 : Int) (x585002_16 : ByteArray) (x596000_16 : ByteArray) (x596001_16 : Int) (x596002_16 : Int), Aside0 (amqprim_Get.j1 kq x585000_16 x585001_16 x585002_16 x596000_16 x596001_16 x596002_16 = some (r1, r2, r3, r4, r5, r6)) ∧ Aside0 (kq ≤ kj3) ∧ Aside0 (wc.heap[gb584]? = some (.cells #[.int .i64 x585000_16, .int .u64 x585001_16, .string x585002_16, (.slice none 0 0)] 25 (0, 0))) ∧ Aside0 (wc.heap[gb591]? = some (.cells #[.int .i64 t585, .int .i64 t586, .int .i64 t587, .bool t588, .bool t589] 34 (0, 0))) ∧ Aside0 (IsS141 w wc g595 x596000_16 x596001_16 x596002_16) ∧ Aside0 (Below w.heap.size w wc))
     case first =>
      have H := HC17.out
      clear HC17
      by_cases c24 : t588 = true
      ·subst c24
       replace H := zyes H
       obtain ⟨⟨t596, t597, t598, t599⟩, A25, H⟩ := zbd H
       dsimp only at H
       obtain ⟨⟨t600, t601, t602, t603⟩, A26, H⟩ := zbd H
       dsimp only at H
       by_cases c27 : t596 > (IntKind.u64.wrap (t600))
       ·rw [if_pos c27] at H
        have c27b0 : decide ((IntKind.u64.wrap (t600)) < t596) = true := decide_eq_true c27
        clear c27
        (first | rw [c27b0] | (simp only [i64_w, i32_w]; rw [c27b0]) | skip)
        simp only [Option.some.injEq, Prod.mk.injEq] at H
        obtain ⟨rfl, rfl, rfl, rfl, rfl, rfl⟩ := H
        have hnb28 := NB591_584.out
        have hnc28 := NB584_591.out
        have hnb29 := NB591_595.out
        have hnc29 := NB595_591.out
        obtain ⟨hcz30_0, hcz30_1, hcz30_2, hcz30_3, hcz30_4, hfz30_0, hfz30_1, hfz30_2, hfz30_3, hfz30_4⟩ := cz5 BK591.out
        go_wp2_with (first | ((with_reducible refine gate_callee (f := 95) rfl ?_); refine goesL_ (some 41) rfl rfl Tryd.func95 (by kernel_rfl) rfl #[.pointer (some ⟨g595, 0, none⟩), .int .i64 t587] rfl za ?_; (with_reducible refine (octet_Cursor_Number.calls kj3 g595 t592 t593 t594 t587 t596 t597 t598 t599 w _ ?side1 ?side2 A25.out).mono ?_); (case side1 => repeat (first | (with_reducible first | exact HI595.out | apply IsS141.alloc | apply IsS141.drewN | apply IsS141.drew | apply IsS141.set_0 | apply IsS141.set_1 | apply IsS141.set_2 | refine IsS141.far ?_ NB595_584.out _ | refine IsS141.far ?_ NB595_591.out _) | exact HI595.out)); (case side2 => repeat (first | (with_reducible first | exact HB.out | apply below_alloc | apply pw_below_drewN | apply below_drew1 | refine below_set ?_ (IsS141.ge HI595.out) | refine below_set ?_ GE584.out | refine below_set ?_ GE591.out) | exact HB.out)); rintro e w31 ⟨rfl, hi, hb, hk⟩; refine ⟨_, rfl, ?_⟩; replace BK584 := Aside0.mk (KeepBut.blk hk (g' := gb584) (o := .cells #[.int .i64 t586, .int .u64 0, .string (⟨#[]⟩ : ByteArray), .slice none 0 0] 25 (0, 0)) (by (with_reducible repeat (first | refine blk_drewN ?_ _ | refine blk_drew ?_ | refine blk_alloc ?_ _)); refine blk_put (cs := #[.int .i64 0, .int .u64 0, .string (⟨#[]⟩ : ByteArray), .slice none 0 0]) ?_ 0 _ rfl; exact zk BK584.out) NB584_595.out (by simp)); replace BK591 := Aside0.mk (zkb BK591.out hk NB591_595.out); replace HB := Aside0.mk (hb); replace HI595 := Aside0.mk (hi); (try clear hb); (try clear hb2); (try clear hk); (try clear hi)) | ((with_reducible refine gate_callee (f := 96) rfl ?_); refine goesL_ (some 44) rfl rfl Tryd.func96 (by kernel_rfl) rfl #[.pointer (some ⟨g595, 0, none⟩)] rfl za ?_; (with_reducible refine (octet_Cursor_Left.calls g595 t597 t598 t599 t600 t601 t602 t603 w _ ?side1 ?side2 A26.out).mono ?_); (case side1 => repeat (first | (with_reducible first | exact HI595.out | apply IsS141.alloc | apply IsS141.drewN | apply IsS141.drew | apply IsS141.set_0 | apply IsS141.set_1 | apply IsS141.set_2 | refine IsS141.far ?_ NB595_584.out _ | refine IsS141.far ?_ NB595_591.out _) | exact HI595.out)); (case side2 => repeat (first | (with_reducible first | exact HB.out | apply below_alloc | apply pw_below_drewN | apply below_drew1 | refine below_set ?_ (IsS141.ge HI595.out) | refine below_set ?_ GE584.out | refine below_set ?_ GE591.out) | exact HB.out)); rintro e w32 ⟨rfl, hi, hb, hk⟩; refine ⟨_, rfl, ?_⟩; replace BK584 := Aside0.mk (zkb BK584.out hk NB584_595.out); replace BK591 := Aside0.mk (zkb BK591.out hk NB591_595.out); replace HB := Aside0.mk (hb); replace HI595 := Aside0.mk (hi); (try clear hb); (try clear hb2); (try clear hk); (try clear hi); have hnb33 := NB584_595.out; have hnc33 := NB595_584.out; obtain ⟨hcz34_0, hcz34_1, hcz34_2, hcz34_3, hfz34_0, hfz34_1, hfz34_2, hfz34_3⟩ := cz4 BK584.out))
        refine bodyPost_ret (results_ctt rfl _ _ gb584 25 #[.int .i64 0, .int .u64 0, .string (⟨#[]⟩ : ByteArray), .slice none 0 0] (0, 0) _ rfl (zp4 BK584.out _ _ _ _) Tryd.underlying25 rfl (by kernel_rfl)) rfl ?_
        exact ⟨_, ze, zn, by repeat (first | (with_reducible first | exact HB.out | apply below_alloc | apply pw_below_drewN | apply below_drew1 | refine below_set ?_ (IsS141.ge HI595.out) | refine below_set ?_ GE584.out | refine below_set ?_ GE591.out) | exact HB.out)⟩
       ·rw [if_neg c27] at H
        have c27b0 : decide ((IntKind.u64.wrap (t600)) < t596) = false := decide_eq_false c27
        clear c27
        (first | rw [c27b0] | (simp only [i64_w, i32_w]; rw [c27b0]) | skip)
        obtain ⟨⟨t604, t605, t606, t607⟩, A35, H⟩ := zbd H
        dsimp only at H
        have H' := Aside0.mk H
        clear H
        have hnb36 := NB591_584.out
        have hnc36 := NB584_591.out
        have hnb37 := NB591_595.out
        have hnc37 := NB595_591.out
        obtain ⟨hcz38_0, hcz38_1, hcz38_2, hcz38_3, hcz38_4, hfz38_0, hfz38_1, hfz38_2, hfz38_3, hfz38_4⟩ := cz5 BK591.out
        go_wp2_with (first | ((with_reducible refine gate_callee (f := 95) rfl ?_); refine goesL_ (some 41) rfl rfl Tryd.func95 (by kernel_rfl) rfl #[.pointer (some ⟨g595, 0, none⟩), .int .i64 t587] rfl za ?_; (with_reducible refine (octet_Cursor_Number.calls kj3 g595 t592 t593 t594 t587 t596 t597 t598 t599 w _ ?side1 ?side2 A25.out).mono ?_); (case side1 => repeat (first | (with_reducible first | exact HI595.out | apply IsS141.alloc | apply IsS141.drewN | apply IsS141.drew | apply IsS141.set_0 | apply IsS141.set_1 | apply IsS141.set_2 | refine IsS141.far ?_ NB595_584.out _ | refine IsS141.far ?_ NB595_591.out _) | exact HI595.out)); (case side2 => repeat (first | (with_reducible first | exact HB.out | apply below_alloc | apply pw_below_drewN | apply below_drew1 | refine below_set ?_ (IsS141.ge HI595.out) | refine below_set ?_ GE584.out | refine below_set ?_ GE591.out) | exact HB.out)); rintro e w39 ⟨rfl, hi, hb, hk⟩; refine ⟨_, rfl, ?_⟩; replace BK584 := Aside0.mk (KeepBut.blk hk (g' := gb584) (o := .cells #[.int .i64 t586, .int .u64 0, .string (⟨#[]⟩ : ByteArray), .slice none 0 0] 25 (0, 0)) (by (with_reducible repeat (first | refine blk_drewN ?_ _ | refine blk_drew ?_ | refine blk_alloc ?_ _)); refine blk_put (cs := #[.int .i64 0, .int .u64 0, .string (⟨#[]⟩ : ByteArray), .slice none 0 0]) ?_ 0 _ rfl; exact zk BK584.out) NB584_595.out (by simp)); replace BK591 := Aside0.mk (zkb BK591.out hk NB591_595.out); replace HB := Aside0.mk (hb); replace HI595 := Aside0.mk (hi); (try clear hb); (try clear hb2); (try clear hk); (try clear hi)) | ((with_reducible refine gate_callee (f := 96) rfl ?_); refine goesL_ (some 44) rfl rfl Tryd.func96 (by kernel_rfl) rfl #[.pointer (some ⟨g595, 0, none⟩)] rfl za ?_; (with_reducible refine (octet_Cursor_Left.calls g595 t597 t598 t599 t600 t601 t602 t603 w _ ?side1 ?side2 A26.out).mono ?_); (case side1 => repeat (first | (with_reducible first | exact HI595.out | apply IsS141.alloc | apply IsS141.drewN | apply IsS141.drew | apply IsS141.set_0 | apply IsS141.set_1 | apply IsS141.set_2 | refine IsS141.far ?_ NB595_584.out _ | refine IsS141.far ?_ NB595_591.out _) | exact HI595.out)); (case side2 => repeat (first | (with_reducible first | exact HB.out | apply below_alloc | apply pw_below_drewN | apply below_drew1 | refine below_set ?_ (IsS141.ge HI595.out) | refine below_set ?_ GE584.out | refine below_set ?_ GE591.out) | exact HB.out)); rintro e w40 ⟨rfl, hi, hb, hk⟩; refine ⟨_, rfl, ?_⟩; replace BK584 := Aside0.mk (zkb BK584.out hk NB584_595.out); replace BK591 := Aside0.mk (zkb BK591.out hk NB591_595.out); replace HB := Aside0.mk (hb); replace HI595 := Aside0.mk (hi); (try clear hb); (try clear hb2); (try clear hk); (try clear hi)) | ((with_reducible refine gate_callee (f := 97) rfl ?_); refine goesL_ (some 51) rfl rfl Tryd.func97 (by kernel_rfl) rfl #[.pointer (some ⟨g595, 0, none⟩), .int .i64 (wrap64 (t596))] rfl za ?_; (with_reducible refine (octet_Cursor_Take.calls g595 t601 t602 t603 (wrap64 (t596)) t604 t605 t606 t607 w _ ?side1 ?side2 A35.out).mono ?_); (case side1 => repeat (first | (with_reducible first | exact HI595.out | apply IsS141.alloc | apply IsS141.drewN | apply IsS141.drew | apply IsS141.set_0 | apply IsS141.set_1 | apply IsS141.set_2 | refine IsS141.far ?_ NB595_584.out _ | refine IsS141.far ?_ NB595_591.out _) | exact HI595.out)); (case side2 => repeat (first | (with_reducible first | exact HB.out | apply below_alloc | apply pw_below_drewN | apply below_drew1 | refine below_set ?_ (IsS141.ge HI595.out) | refine below_set ?_ GE584.out | refine below_set ?_ GE591.out) | exact HB.out)); rintro e w41 ⟨rfl, hi, hb, hk⟩; refine ⟨_, rfl, ?_⟩; replace BK584 := Aside0.mk (zkb BK584.out hk NB584_595.out); replace BK591 := Aside0.mk (zkb BK591.out hk NB591_595.out); replace HB := Aside0.mk (hb); replace HI595 := Aside0.mk (hi); (try clear hb); (try clear hb2); (try clear hk); (try clear hi); have hnb42 := NB584_595.out; have hnc42 := NB595_584.out; obtain ⟨hcz43_0, hcz43_1, hcz43_2, hcz43_3, hfz43_0, hfz43_1, hfz43_2, hfz43_3⟩ := cz4 BK584.out))
        go_meet
        case rel => exact ⟨_, (t586), (0), (t604), (t605), (t606), (t607), H', ⟨zoj HJ3.out⟩, ⟨by (with_reducible repeat (first | refine blk_drewN ?_ _ | refine blk_drew ?_ | refine blk_alloc ?_ _)); refine blk_put (cs := #[.int .i64 t586, .int .u64 0, .string (⟨#[]⟩ : ByteArray), .slice none 0 0]) ?_ 2 _ rfl; exact zk BK584.out⟩, ⟨zk BK591.out⟩, ⟨by repeat (first | (with_reducible first | exact HI595.out | apply IsS141.alloc | apply IsS141.drewN | apply IsS141.drew | apply IsS141.set_0 | apply IsS141.set_1 | apply IsS141.set_2 | refine IsS141.far ?_ NB595_584.out _ | refine IsS141.far ?_ NB595_591.out _) | exact HI595.out)⟩, ⟨by repeat (first | (with_reducible first | exact HB.out | apply below_alloc | apply pw_below_drewN | apply below_drew1 | refine below_set ?_ (IsS141.ge HI595.out) | refine below_set ?_ GE584.out | refine below_set ?_ GE591.out) | exact HB.out)⟩⟩
      ·replace c24 := Bool.eq_false_iff.mpr c24
       subst c24
       replace H := zno H
       by_cases c44 : t587 = 16
       ·rw [if_pos c44] at H
        have c44b0 : (t587 == 16) = true := beq_iff_eq.mpr c44
        have c44b1 : (t587 != 16) = false := bne_eq_false_iff_eq.mpr c44
        clear c44
        obtain ⟨⟨t608, t609, t610, t611⟩, A45, H⟩ := zbd H
        dsimp only at H
        have H' := Aside0.mk H
        clear H
        have hnb46 := NB591_584.out
        have hnc46 := NB584_591.out
        have hnb47 := NB591_595.out
        have hnc47 := NB595_591.out
        obtain ⟨hcz48_0, hcz48_1, hcz48_2, hcz48_3, hcz48_4, hfz48_0, hfz48_1, hfz48_2, hfz48_3, hfz48_4⟩ := cz5 BK591.out
        go_wp2_with (first | ((with_reducible refine gate_callee (f := 97) rfl ?_); refine goesL_ (some 58) rfl rfl Tryd.func97 (by kernel_rfl) rfl #[.pointer (some ⟨g595, 0, none⟩), .int .i64 16] rfl za ?_; (with_reducible refine (octet_Cursor_Take.calls g595 t592 t593 t594 16 t608 t609 t610 t611 w _ ?side1 ?side2 A45.out).mono ?_); (case side1 => repeat (first | (with_reducible first | exact HI595.out | apply IsS141.alloc | apply IsS141.drewN | apply IsS141.drew | apply IsS141.set_0 | apply IsS141.set_1 | apply IsS141.set_2 | refine IsS141.far ?_ NB595_584.out _ | refine IsS141.far ?_ NB595_591.out _) | exact HI595.out)); (case side2 => repeat (first | (with_reducible first | exact HB.out | apply below_alloc | apply pw_below_drewN | apply below_drew1 | refine below_set ?_ (IsS141.ge HI595.out) | refine below_set ?_ GE584.out | refine below_set ?_ GE591.out) | exact HB.out)); rintro e w49 ⟨rfl, hi, hb, hk⟩; refine ⟨_, rfl, ?_⟩; replace BK584 := Aside0.mk (KeepBut.blk hk (g' := gb584) (o := .cells #[.int .i64 t586, .int .u64 0, .string (⟨#[]⟩ : ByteArray), .slice none 0 0] 25 (0, 0)) (by (with_reducible repeat (first | refine blk_drewN ?_ _ | refine blk_drew ?_ | refine blk_alloc ?_ _)); refine blk_put (cs := #[.int .i64 0, .int .u64 0, .string (⟨#[]⟩ : ByteArray), .slice none 0 0]) ?_ 0 _ rfl; exact zk BK584.out) NB584_595.out (by simp)); replace BK591 := Aside0.mk (zkb BK591.out hk NB591_595.out); replace HB := Aside0.mk (hb); replace HI595 := Aside0.mk (hi); (try clear hb); (try clear hb2); (try clear hk); (try clear hi); have hnb50 := NB584_595.out; have hnc50 := NB595_584.out; obtain ⟨hcz51_0, hcz51_1, hcz51_2, hcz51_3, hfz51_0, hfz51_1, hfz51_2, hfz51_3⟩ := cz4 BK584.out))
        go_meet
        case rel => exact ⟨_, (t586), (0), (t608), (t609), (t610), (t611), H', ⟨zoj HJ3.out⟩, ⟨by (with_reducible repeat (first | refine blk_drewN ?_ _ | refine blk_drew ?_ | refine blk_alloc ?_ _)); refine blk_put (cs := #[.int .i64 t586, .int .u64 0, .string (⟨#[]⟩ : ByteArray), .slice none 0 0]) ?_ 2 _ rfl; exact zk BK584.out⟩, ⟨zk BK591.out⟩, ⟨by repeat (first | (with_reducible first | exact HI595.out | apply IsS141.alloc | apply IsS141.drewN | apply IsS141.drew | apply IsS141.set_0 | apply IsS141.set_1 | apply IsS141.set_2 | refine IsS141.far ?_ NB595_584.out _ | refine IsS141.far ?_ NB595_591.out _) | exact HI595.out)⟩, ⟨by repeat (first | (with_reducible first | exact HB.out | apply below_alloc | apply pw_below_drewN | apply below_drew1 | refine below_set ?_ (IsS141.ge HI595.out) | refine below_set ?_ GE584.out | refine below_set ?_ GE591.out) | exact HB.out)⟩⟩
       ·rw [if_neg c44] at H
        have c44b0 : (t587 == 16) = false := beq_eq_false_iff_ne.mpr c44
        have c44b1 : (t587 != 16) = true := bne_iff_ne.mpr c44
        by_cases c52 : t585 = 65
        ·rw [if_pos c52] at H
         have c52b0 : (t585 == 65) = true := beq_iff_eq.mpr c52
         have c52b1 : (t585 != 65) = false := bne_eq_false_iff_eq.mpr c52
         clear c52
         have H' := Aside0.mk H
         clear H
         have hnb53 := NB591_584.out
         have hnc53 := NB584_591.out
         have hnb54 := NB591_595.out
         have hnc54 := NB595_591.out
         obtain ⟨hcz55_0, hcz55_1, hcz55_2, hcz55_3, hcz55_4, hfz55_0, hfz55_1, hfz55_2, hfz55_3, hfz55_4⟩ := cz5 BK591.out
         have hnb56 := NB584_595.out
         have hnc56 := NB595_584.out
         obtain ⟨hcz57_0, hcz57_1, hcz57_2, hcz57_3, hfz57_0, hfz57_1, hfz57_2, hfz57_3⟩ := cz4 BK584.out
         go_wp2
         go_meet
         case rel => exact ⟨_, (t586), (1), ((⟨#[]⟩ : ByteArray)), (t592), (t593), (t594), H', ⟨zoj HJ3.out⟩, ⟨by (with_reducible repeat (first | refine blk_drewN ?_ _ | refine blk_drew ?_ | refine blk_alloc ?_ _)); refine blk_put (cs := #[.int .i64 t586, .int .u64 0, .string (⟨#[]⟩ : ByteArray), .slice none 0 0]) ?_ 1 _ rfl; (with_reducible repeat (first | refine blk_drewN ?_ _ | refine blk_drew ?_ | refine blk_alloc ?_ _)); refine blk_put (cs := #[.int .i64 0, .int .u64 0, .string (⟨#[]⟩ : ByteArray), .slice none 0 0]) ?_ 0 _ rfl; exact zk BK584.out⟩, ⟨zk BK591.out⟩, ⟨by repeat (first | (with_reducible first | exact HI595.out | apply IsS141.alloc | apply IsS141.drewN | apply IsS141.drew | apply IsS141.set_0 | apply IsS141.set_1 | apply IsS141.set_2 | refine IsS141.far ?_ NB595_584.out _ | refine IsS141.far ?_ NB595_591.out _) | exact HI595.out)⟩, ⟨by repeat (first | (with_reducible first | exact HB.out | apply below_alloc | apply pw_below_drewN | apply below_drew1 | refine below_set ?_ (IsS141.ge HI595.out) | refine below_set ?_ GE584.out | refine below_set ?_ GE591.out) | exact HB.out)⟩⟩
        ·rw [if_neg c52] at H
         have c52b0 : (t585 == 65) = false := beq_eq_false_iff_ne.mpr c52
         have c52b1 : (t585 != 65) = true := bne_iff_ne.mpr c52
         obtain ⟨⟨t612, t613, t614, t615⟩, A58, H⟩ := zbd H
         dsimp only at H
         obtain ⟨t616, A59, H⟩ := zbd H
         have H' := Aside0.mk H
         clear H
         have hnb60 := NB591_584.out
         have hnc60 := NB584_591.out
         have hnb61 := NB591_595.out
         have hnc61 := NB595_591.out
         obtain ⟨hcz62_0, hcz62_1, hcz62_2, hcz62_3, hcz62_4, hfz62_0, hfz62_1, hfz62_2, hfz62_3, hfz62_4⟩ := cz5 BK591.out
         try go_wp2
         have n0_ : Aside0 ((w18.setCell ⟨gb584, 0, none⟩ (.int .i64 t586)).heap[gb584]? = some (.cells #[.int .i64 t586, .int .u64 0, .string (⟨#[]⟩ : ByteArray), .slice none 0 0] 25 (0, 0))) := ⟨by (with_reducible repeat (first | refine blk_drewN ?_ _ | refine blk_drew ?_ | refine blk_alloc ?_ _)); refine blk_put (cs := #[.int .i64 0, .int .u64 0, .string (⟨#[]⟩ : ByteArray), .slice none 0 0]) ?_ 0 _ rfl; exact zk BK584.out⟩
         have n1_ : Aside0 ((w18.setCell ⟨gb584, 0, none⟩ (.int .i64 t586)).heap[gb591]? = some (.cells #[.int .i64 t585, .int .i64 t586, .int .i64 t587, .bool false, .bool t589] 34 (0, 0))) := ⟨zk BK591.out⟩
         have n2_ : Aside0 (IsS141 w (w18.setCell ⟨gb584, 0, none⟩ (.int .i64 t586)) g595 t592 t593 t594) := ⟨by repeat (first | (with_reducible first | exact HI595.out | apply IsS141.alloc | apply IsS141.drewN | apply IsS141.drew | apply IsS141.set_0 | apply IsS141.set_1 | apply IsS141.set_2 | refine IsS141.far ?_ NB595_584.out _ | refine IsS141.far ?_ NB595_591.out _) | exact HI595.out)⟩
         have n3_ : Aside0 (Below w.heap.size w (w18.setCell ⟨gb584, 0, none⟩ (.int .i64 t586))) := ⟨by repeat (first | (with_reducible first | exact HB.out | apply below_alloc | apply pw_below_drewN | apply below_drew1 | refine below_set ?_ (IsS141.ge HI595.out) | refine below_set ?_ GE584.out | refine below_set ?_ GE591.out) | exact HB.out)⟩
         (try clear BK584)
         (try clear BK591)
         (try clear HI595)
         (try clear HB)
         generalize (w18.setCell ⟨gb584, 0, none⟩ (.int .i64 t586)) = w63 at n0_ n1_ n2_ n3_ ⊢
         have BK584 := n0_
         have BK591 := n1_
         have HI595 := n2_
         have HB := n3_
         clear n0_ n1_ n2_ n3_
         have n0_ := Aside0.mk (blk_drew BK584.out)
         have n1_ := Aside0.mk (blk_drew BK591.out)
         have n2_ := Aside0.mk (IsS141.drew HI595.out)
         have n3_ := Aside0.mk (below_drew1 HB.out)
         clear BK584
         clear BK591
         clear HI595
         clear HB
         have BK584 := n0_
         have BK591 := n1_
         have HI595 := n2_
         have HB := n3_
         clear n0_ n1_ n2_ n3_
         refine start_ (n := 8) (S := fun w' => w'.cell? ⟨gb591, 0, none⟩ = some (.int .i64 t585) ∧ w'.cell? ⟨gb591, 1, none⟩ = some (.int .i64 t586) ∧ w'.cell? ⟨gb591, 2, none⟩ = some (.int .i64 t587) ∧ w'.cell? ⟨gb591, 3, none⟩ = some (.bool false) ∧ w'.cell? ⟨gb591, 4, none⟩ = some (.bool t589)) (ds := []) (bm 8 0) (by kernel_rfl) rfl rfl ⟨(blk_cell BK591.out 0).trans rfl, (blk_cell BK591.out 1).trans rfl, (blk_cell BK591.out 2).trans rfl, (blk_cell BK591.out 3).trans rfl, (blk_cell BK591.out 4).trans rfl⟩ (fun hHeld => ?_); refine with_tabW amqprim_Get.tab6 amqprim_Get.bits6 (fun HT_ HW_ => ?_)
         generalize w63.drew = w64 at BK584 BK591 HI595 HB hHeld ⊢
         refine pu 1 (some 29) (bm 8 2) (h := ?_)
         refine pu 2 (some 30) (bm 8 6) (h := ?_)
         refine tk 0 (some 28) (bm 8 7) hHeld (h := ?_)
         refine tk 3 (some 31) (bm 8 15) hHeld (h := ?_)
         refine one_ (i := 4) (N := some 32) (bm 8 31) rfl rfl (one_of HT_.out (by kernel_rfl)) (by decide) (fun K hK => ?_)
         refine goes_ Tryd.func95 (by kernel_rfl) rfl #[.pointer (some ⟨g595, 0, none⟩), .int .i64 t587] (by rfl) rfl rfl za ?_
         with_reducible refine (octet_Cursor_Number.calls kj3 g595 t592 t593 t594 t587 t612 t613 t614 t615 w _ ?side1 ?side2 A58.out).mono ?_
         (case side1 => repeat (first | (with_reducible first | exact HI595.out | apply IsS141.alloc | apply IsS141.drewN | apply IsS141.drew | apply IsS141.set_0 | apply IsS141.set_1 | apply IsS141.set_2 | refine IsS141.far ?_ NB595_584.out _ | refine IsS141.far ?_ NB595_591.out _) | exact HI595.out))
         (case side2 => repeat (first | (with_reducible first | exact HB.out | apply below_alloc | apply pw_below_drewN | apply below_drew1 | refine below_set ?_ (IsS141.ge HI595.out) | refine below_set ?_ GE584.out | refine below_set ?_ GE591.out) | exact HB.out))
         rintro e w65 ⟨rfl, hi, hb, hk⟩
         refine ⟨_, rfl, ?_⟩
         have n0_ := Aside0.mk (zkb BK584.out hk NB584_595.out)
         have n1_ := Aside0.mk (zkb BK591.out hk NB591_595.out)
         have n2_ := Aside0.mk (hb)
         have n3_ := Aside0.mk (hi)
         clear BK584
         clear BK591
         clear HB
         clear HI595
         have BK584 := n0_
         have BK591 := n1_
         have HB := n2_
         have HI595 := n3_
         clear n0_ n1_ n2_ n3_
         (try clear hb)
         (try clear hb2)
         (try clear hk)
         (try clear hi)
         refine hK.out _ _ ⟨(blk_cell BK591.out 0).trans rfl, (blk_cell BK591.out 1).trans rfl, (blk_cell BK591.out 2).trans rfl, (blk_cell BK591.out 3).trans rfl, (blk_cell BK591.out 4).trans rfl⟩ (fun hHeld => ?_)
         clear hK K
         refine norm_ (a' := ?_) ?_ ?_
         rotate_left
         ·show Act.put _ (some 32) _ = _
          simp only [Act.put, List.setIfInBounds_toArray, List.set_cons_zero, List.set_cons_succ, i64_w, i32_w]
          rfl
         refine one_ (i := 5) (N := some 33) (bm 8 63) rfl rfl (one_of HT_.out (by kernel_rfl)) (by decide) (fun K hK => ?_)
         refine goes_ Tryd.func98 (by kernel_rfl) rfl #[.agg #[.int .i64 t585, .int .i64 t586, .int .i64 t587, .bool false, .bool t589], .int .u64 t612] (by rfl) rfl rfl za ?_
         with_reducible refine (amqprim_widen.calls kj3 t585 t586 t587 false t589 t612 t616 _ A59.out).mono ?_
         rintro e w66 ⟨rfl, hb⟩
         refine ⟨_, rfl, ?_⟩
         have n0_ := Aside0.mk (zbb BK584.out hb)
         have n1_ := Aside0.mk (zbb BK591.out hb)
         have n2_ := Aside0.mk (IsS141.below (by repeat (first | (with_reducible first | exact HI595.out | apply IsS141.alloc | apply IsS141.drewN | apply IsS141.drew | apply IsS141.set_0 | apply IsS141.set_1 | apply IsS141.set_2 | refine IsS141.far ?_ NB595_584.out _ | refine IsS141.far ?_ NB595_591.out _) | exact HI595.out)) hb)
         have n3_ := Aside0.mk (below_step (by repeat (first | (with_reducible first | exact HB.out | apply below_alloc | apply pw_below_drewN | apply below_drew1 | refine below_set ?_ (IsS141.ge HI595.out) | refine below_set ?_ GE584.out | refine below_set ?_ GE591.out) | exact HB.out)) hb)
         clear BK584
         clear BK591
         clear HI595
         clear HB
         have BK584 := n0_
         have BK591 := n1_
         have HI595 := n2_
         have HB := n3_
         clear n0_ n1_ n2_ n3_
         (try clear hb)
         (try clear hb2)
         (try clear hk)
         (try clear hi)
         refine hK.out _ _ ⟨(blk_cell BK591.out 0).trans rfl, (blk_cell BK591.out 1).trans rfl, (blk_cell BK591.out 2).trans rfl, (blk_cell BK591.out 3).trans rfl, (blk_cell BK591.out 4).trans rfl⟩ (fun hHeld => ?_)
         clear hK K
         refine norm_ (a' := ?_) ?_ ?_
         rotate_left
         ·show Act.put _ (some 33) _ = _
          simp only [Act.put, List.setIfInBounds_toArray, List.set_cons_zero, List.set_cons_succ, i64_w, i32_w]
          rfl
         refine pu 6 (some 34) (bm 8 127) (h := ?_)
         refine one_ (i := 7) (N := none) (bm 8 255) rfl rfl (one_of HT_.out (by kernel_rfl)) (by decide) (fun K hK => ?_)
         have hs67 : w66.cell? ⟨gb584, 1, none⟩ = some (.int .u64 0) := (blk_cell BK584.out 1).trans rfl
         have hfs67 := blk_frozen BK584.out 1
         have hns67_1 := NB591_584.out
         have hms67_1 := NB584_591.out
         refine skip_ (w1 := ?_) (by rfl) rfl ?_ ?_
         rotate_left
         ·go_simp
          rfl
         refine hK.out _ _ ⟨((cell_far (p := ⟨gb584, _, none⟩) NB591_584.out _).trans (hHeld.1)), ((cell_far (p := ⟨gb584, _, none⟩) NB591_584.out _).trans (hHeld.2.1)), ((cell_far (p := ⟨gb584, _, none⟩) NB591_584.out _).trans (hHeld.2.2.1)), ((cell_far (p := ⟨gb584, _, none⟩) NB591_584.out _).trans (hHeld.2.2.2.1)), ((cell_far (p := ⟨gb584, _, none⟩) NB591_584.out _).trans (hHeld.2.2.2.2))⟩ (fun hHeld => ?_)
         clear hK K
         refine done_ (done_of HT_.out (by kernel_rfl)) ?_
         try go_wp2
         go_meet
         case rel => exact ⟨_, (t586), (t616), ((⟨#[]⟩ : ByteArray)), (t613), (t614), (t615), H', ⟨zoj HJ3.out⟩, ⟨by (with_reducible repeat (first | refine blk_drewN ?_ _ | refine blk_drew ?_ | refine blk_alloc ?_ _)); refine blk_put (cs := #[.int .i64 t586, .int .u64 0, .string (⟨#[]⟩ : ByteArray), .slice none 0 0]) ?_ 1 _ rfl; exact zk BK584.out⟩, ⟨zk BK591.out⟩, ⟨by repeat (first | (with_reducible first | exact HI595.out | apply IsS141.alloc | apply IsS141.drewN | apply IsS141.drew | apply IsS141.set_0 | apply IsS141.set_1 | apply IsS141.set_2 | refine IsS141.far ?_ NB595_584.out _ | refine IsS141.far ?_ NB595_591.out _) | exact HI595.out)⟩, ⟨by repeat (first | (with_reducible first | exact HB.out | apply below_alloc | apply pw_below_drewN | apply below_drew1 | refine below_set ?_ (IsS141.ge HI595.out) | refine below_set ?_ GE584.out | refine below_set ?_ GE591.out) | exact HB.out)⟩⟩
     case rest =>
      clear HC17
      try clear c13
      try clear hcz21_0
      try clear hcz21_1
      try clear hcz21_2
      try clear hcz21_3
      try clear hcz21_4
      try clear hcz23_0
      try clear hcz23_1
      try clear hcz23_2
      try clear hcz23_3
      try clear hcz9_0
      try clear hcz9_1
      try clear hcz9_2
      try clear hcz9_3
      try clear hcz9_4
      try clear hfz21_0
      try clear hfz21_1
      try clear hfz21_2
      try clear hfz21_3
      try clear hfz21_4
      try clear hfz23_0
      try clear hfz23_1
      try clear hfz23_2
      try clear hfz23_3
      try clear hfz9_0
      try clear hfz9_1
      try clear hfz9_2
      try clear hfz9_3
      try clear hfz9_4
      obtain ⟨kq, x585000_16, x585001_16, x585002_16, x596000_16, x596001_16, x596002_16, HA, HJ16, BK584, BK591, HI595, HB⟩ := hcut
      cases kq with
      | zero => exact absurd HA.out (by simp [amqprim_Get.j1])
      | succ kj16 =>
       have H := HA.out
       clear HA
       simp only [amqprim_Get.j1] at H
       obtain ⟨⟨t617, t618, t619, t620⟩, A68, H⟩ := zbd H
       dsimp only at H
       by_cases c69 : t617 = 0
       ·rw [if_pos c69] at H
        have c69b0 : (t617 == 0) = true := beq_iff_eq.mpr c69
        have c69b1 : (t617 != 0) = false := bne_eq_false_iff_eq.mpr c69
        clear c69
        obtain ⟨t625, A70, H⟩ := zbd H
        by_cases c71 : t625 = 0
        ·rw [if_pos c71] at H
         have c71b0 : (t625 == 0) = true := beq_iff_eq.mpr c71
         have c71b1 : (t625 != 0) = false := bne_eq_false_iff_eq.mpr c71
         clear c71
         obtain ⟨⟨t626, t627, t628, t629⟩, A72, H⟩ := zbd H
         dsimp only at H
         simp only [Option.some.injEq, Prod.mk.injEq] at H
         obtain ⟨rfl, rfl, rfl, rfl, rfl, rfl⟩ := H
         try go_wp2_with (first | ((with_reducible refine gate_callee (f := 99) rfl ?_); refine goesL_ (some 66) rfl rfl Tryd.func99 (by kernel_rfl) rfl #[.pointer (some ⟨g595, 0, none⟩)] rfl za ?_; (with_reducible refine (octet_Cursor_Err.calls g595 x596000_16 x596001_16 x596002_16 t617 t618 t619 t620 w _ ?side1 ?side2 A68.out).mono ?_); (case side1 => repeat (first | (with_reducible first | exact HI595.out | apply IsS141.alloc | apply IsS141.drewN | apply IsS141.drew | apply IsS141.set_0 | apply IsS141.set_1 | apply IsS141.set_2 | refine IsS141.far ?_ NB595_584.out _ | refine IsS141.far ?_ NB595_591.out _) | exact HI595.out)); (case side2 => repeat (first | (with_reducible first | exact HB.out | apply below_alloc | apply pw_below_drewN | apply below_drew1 | refine below_set ?_ (IsS141.ge HI595.out) | refine below_set ?_ GE584.out | refine below_set ?_ GE591.out) | exact HB.out)); rintro e w73 ⟨rfl, hi, hb, hk⟩; refine ⟨_, rfl, ?_⟩; replace BK584 := Aside0.mk (zkb BK584.out hk NB584_595.out); replace BK591 := Aside0.mk (zkb BK591.out hk NB591_595.out); replace HB := Aside0.mk (hb); replace HI595 := Aside0.mk (hi); (try clear hb); (try clear hb2); (try clear hk); (try clear hi); have hnb74 := NB584_591.out; have hnc74 := NB591_584.out; have hnb75 := NB584_595.out; have hnc75 := NB595_584.out; obtain ⟨hcz76_0, hcz76_1, hcz76_2, hcz76_3, hfz76_0, hfz76_1, hfz76_2, hfz76_3⟩ := cz4 BK584.out) | ((with_reducible refine gate_callee (f := 21) rfl ?_); refine goesL_ (some 72) rfl rfl Tryd.func21 (by kernel_rfl) rfl #[.agg #[.int .i64 x585000_16, .int .u64 x585001_16, .string x585002_16, .slice none 0 0]] rfl za ?_; (refine (amqprim_Check.calls x585000_16 x585001_16 x585002_16 _ _ ([] : List (Vl)) t625 _ ?side1 ?side2 ?side3 A70.out).mono ?_); (case side1 => exact HT.out.below (by repeat (first | (with_reducible first | exact HB.out | apply below_alloc | apply pw_below_drewN | apply below_drew1 | refine below_set ?_ (IsS141.ge HI595.out) | refine below_set ?_ GE584.out | refine below_set ?_ GE591.out) | exact HB.out))); (case side2 => exact Kd.C_nil _ _); (case side3 => exact Nat.le_refl _); rintro e w77 ⟨rfl, hb⟩; refine ⟨_, rfl, ?_⟩; replace BK584 := Aside0.mk (zbb BK584.out hb); replace BK591 := Aside0.mk (zbb BK591.out hb); replace HB := Aside0.mk (below_step (by repeat (first | (with_reducible first | exact HB.out | apply below_alloc | apply pw_below_drewN | apply below_drew1 | refine below_set ?_ (IsS141.ge HI595.out) | refine below_set ?_ GE584.out | refine below_set ?_ GE591.out) | exact HB.out)) hb); replace HI595 := Aside0.mk (IsS141.below (by repeat (first | (with_reducible first | exact HI595.out | apply IsS141.alloc | apply IsS141.drewN | apply IsS141.drew | apply IsS141.set_0 | apply IsS141.set_1 | apply IsS141.set_2 | refine IsS141.far ?_ NB595_584.out _ | refine IsS141.far ?_ NB595_591.out _) | exact HI595.out)) hb); (try clear hb); (try clear hb2); (try clear hk); (try clear hi)))
         have n0_ := Aside0.mk (blk_drew BK584.out)
         have n1_ := Aside0.mk (blk_drew BK591.out)
         have n2_ := Aside0.mk (IsS141.drew HI595.out)
         have n3_ := Aside0.mk (below_drew1 HB.out)
         clear BK584
         clear BK591
         clear HI595
         clear HB
         have BK584 := n0_
         have BK591 := n1_
         have HI595 := n2_
         have HB := n3_
         clear n0_ n1_ n2_ n3_
         refine start_ (n := 6) (S := fun w' => w'.cell? ⟨gb584, 0, none⟩ = some (.int .i64 x585000_16) ∧ w'.cell? ⟨gb584, 1, none⟩ = some (.int .u64 x585001_16) ∧ w'.cell? ⟨gb584, 2, none⟩ = some (.string x585002_16) ∧ w'.cell? ⟨gb584, 3, none⟩ = some (.slice none 0 0)) (ds := [3]) #[false, false, false, false, false, false] (by kernel_rfl) rfl rfl ⟨(blk_cell BK584.out 0).trans rfl, (blk_cell BK584.out 1).trans rfl, (blk_cell BK584.out 2).trans rfl, (blk_cell BK584.out 3).trans rfl⟩ (fun hHeld => ?_)
         generalize w77.drew = w78 at BK584 BK591 HI595 HB hHeld ⊢
         refine pure_ (i := 1) (N := some 77) (v := ?_) (a' := ?_) #[false, true, false, false, false, false] rfl rfl (by kernel_rfl) (fun _ _ _ h => h) (Or.inl ⟨by rfl, ?_⟩) ?_ ?_
         rotate_left
         ·intro w'
          go_simp
          with_reducible rfl
         rotate_left
         ·simp only [Act.put, List.setIfInBounds_toArray, List.set_cons_zero, List.set_cons_succ, i64_w, i32_w]
          rfl
         refine take_ (i := 0) (N := some 76) (v := ?_) (a' := ?_) #[true, true, false, false, false, false] rfl rfl (by kernel_rfl) (fun _ _ _ h => h) (Or.inl ⟨by rfl, ?_⟩) hHeld ?_ ?_
         rotate_left
         ·rintro w' ⟨s0, s1, s2, s3⟩
          go_simp
          with_reducible rfl
         rotate_left
         ·simp only [Act.put, List.setIfInBounds_toArray, List.set_cons_zero, List.set_cons_succ, i64_w, i32_w]
          rfl
         refine one_ (i := 2) (N := some 78) #[true, true, true, false, false, false] rfl rfl (by kernel_rfl) (by decide) (fun K hK => ?_)
         refine goes_ Tryd.func100 (by kernel_rfl) rfl #[.pointer (some ⟨g595, 0, none⟩)] (by rfl) rfl rfl za ?_
         with_reducible refine (octet_Cursor_At.calls g595 t618 t619 t620 t626 t627 t628 t629 w _ ?side1 ?side2 A72.out).mono ?_
         (case side1 => repeat (first | (with_reducible first | exact HI595.out | apply IsS141.alloc | apply IsS141.drewN | apply IsS141.drew | apply IsS141.set_0 | apply IsS141.set_1 | apply IsS141.set_2 | refine IsS141.far ?_ NB595_584.out _ | refine IsS141.far ?_ NB595_591.out _) | exact HI595.out))
         (case side2 => repeat (first | (with_reducible first | exact HB.out | apply below_alloc | apply pw_below_drewN | apply below_drew1 | refine below_set ?_ (IsS141.ge HI595.out) | refine below_set ?_ GE584.out | refine below_set ?_ GE591.out) | exact HB.out))
         rintro e w79 ⟨rfl, hi, hb, hk⟩
         refine ⟨_, rfl, ?_⟩
         have n0_ := Aside0.mk (zkb BK584.out hk NB584_595.out)
         have n1_ := Aside0.mk (zkb BK591.out hk NB591_595.out)
         have n2_ := Aside0.mk (hb)
         have n3_ := Aside0.mk (hi)
         clear BK584
         clear BK591
         clear HB
         clear HI595
         have BK584 := n0_
         have BK591 := n1_
         have HB := n2_
         have HI595 := n3_
         clear n0_ n1_ n2_ n3_
         (try clear hb)
         (try clear hb2)
         (try clear hk)
         (try clear hi)
         refine hK.out _ _ ⟨(blk_cell BK584.out 0).trans rfl, (blk_cell BK584.out 1).trans rfl, (blk_cell BK584.out 2).trans rfl, (blk_cell BK584.out 3).trans rfl⟩ (fun hHeld => ?_)
         clear hK K
         refine norm_ (a' := ?_) ?_ ?_
         rotate_left
         ·show Act.put _ (some 78) _ = _
          simp only [Act.put, List.setIfInBounds_toArray, List.set_cons_zero, List.set_cons_succ, i64_w, i32_w]
          rfl
         refine last_ (i := 3) (N := none) #[true, true, true, true, false, false] rfl rfl (by kernel_rfl) (by decide) (fun K hK => ?_)
         have hs80 : w79.cell? ⟨gb584, 0, none⟩ = some (.int .i64 x585000_16) := (blk_cell BK584.out 0).trans rfl
         have hfs80 := blk_frozen BK584.out 0
         have hns80_1 := NB591_584.out
         have hms80_1 := NB584_591.out
         have hs81 : w79.cell? ⟨gb584, 1, none⟩ = some (.int .u64 x585001_16) := (blk_cell BK584.out 1).trans rfl
         have hfs81 := blk_frozen BK584.out 1
         have hns81_1 := NB591_584.out
         have hms81_1 := NB584_591.out
         have hs82 : w79.cell? ⟨gb584, 2, none⟩ = some (.string x585002_16) := (blk_cell BK584.out 2).trans rfl
         have hfs82 := blk_frozen BK584.out 2
         have hns82_1 := NB591_584.out
         have hms82_1 := NB584_591.out
         have hs83 : w79.cell? ⟨gb584, 3, none⟩ = some (.slice none 0 0) := (blk_cell BK584.out 3).trans rfl
         have hfs83 := blk_frozen BK584.out 3
         have hns83_1 := NB591_584.out
         have hms83_1 := NB584_591.out
         refine skip_ (w1 := ?_) (by rfl) rfl ?_ ?_
         rotate_left
         ·go_simp
          rfl
         refine hK.out _ _ ?_
         clear hK K
         refine pure_ (i := 4) (N := some 5) (v := ?_) (a' := ?_) #[true, true, true, true, true, false] rfl rfl (by kernel_rfl) (fun _ _ _ h => h) (Or.inl ⟨by rfl, ?_⟩) ?_ ?_
         rotate_left
         ·intro w'
          go_simp
          with_reducible rfl
         rotate_left
         ·simp only [Act.put, List.setIfInBounds_toArray, List.set_cons_zero, List.set_cons_succ, i64_w, i32_w]
          rfl
         refine pure_ (i := 5) (N := some 6) (v := ?_) (a' := ?_) #[true, true, true, true, true, true] rfl rfl (by kernel_rfl) (fun _ _ _ h => h) (Or.inl ⟨by rfl, ?_⟩) ?_ ?_
         rotate_left
         ·intro w'
          go_simp
          with_reducible rfl
         rotate_left
         ·simp only [Act.put, List.setIfInBounds_toArray, List.set_cons_zero, List.set_cons_succ, i64_w, i32_w]
          rfl
         refine done_ (by kernel_rfl) ?_
         try go_wp2
         refine bodyPost_ret (results_ctt rfl _ _ gb584 25 #[.int .i64 x585000_16, .int .u64 x585001_16, .string x585002_16, .slice none 0 0] (0, 0) _ rfl (zp4 BK584.out _ _ _ _) Tryd.underlying25 rfl (by kernel_rfl)) rfl ?_
         exact ⟨_, ze, zn, by repeat (first | (with_reducible first | exact HB.out | apply below_alloc | apply pw_below_drewN | apply below_drew1 | refine below_set ?_ (IsS141.ge HI595.out) | refine below_set ?_ GE584.out | refine below_set ?_ GE591.out) | exact HB.out)⟩
        ·rw [if_neg c71] at H
         have c71b0 : (t625 == 0) = false := beq_eq_false_iff_ne.mpr c71
         have c71b1 : (t625 != 0) = true := bne_iff_ne.mpr c71
         by_cases c84 : t625 = 2
         ·rw [if_pos c84] at H
          have c84b0 : (t625 == 2) = true := beq_iff_eq.mpr c84
          have c84b1 : (t625 != 2) = false := bne_eq_false_iff_eq.mpr c84
          clear c84
          simp only [Option.some.injEq, Prod.mk.injEq] at H
          obtain ⟨rfl, rfl, rfl, rfl, rfl, rfl⟩ := H
          go_wp2_with (first | ((with_reducible refine gate_callee (f := 99) rfl ?_); refine goesL_ (some 66) rfl rfl Tryd.func99 (by kernel_rfl) rfl #[.pointer (some ⟨g595, 0, none⟩)] rfl za ?_; (with_reducible refine (octet_Cursor_Err.calls g595 x596000_16 x596001_16 x596002_16 t617 t618 t619 t620 w _ ?side1 ?side2 A68.out).mono ?_); (case side1 => repeat (first | (with_reducible first | exact HI595.out | apply IsS141.alloc | apply IsS141.drewN | apply IsS141.drew | apply IsS141.set_0 | apply IsS141.set_1 | apply IsS141.set_2 | refine IsS141.far ?_ NB595_584.out _ | refine IsS141.far ?_ NB595_591.out _) | exact HI595.out)); (case side2 => repeat (first | (with_reducible first | exact HB.out | apply below_alloc | apply pw_below_drewN | apply below_drew1 | refine below_set ?_ (IsS141.ge HI595.out) | refine below_set ?_ GE584.out | refine below_set ?_ GE591.out) | exact HB.out)); rintro e w85 ⟨rfl, hi, hb, hk⟩; refine ⟨_, rfl, ?_⟩; replace BK584 := Aside0.mk (zkb BK584.out hk NB584_595.out); replace BK591 := Aside0.mk (zkb BK591.out hk NB591_595.out); replace HB := Aside0.mk (hb); replace HI595 := Aside0.mk (hi); (try clear hb); (try clear hb2); (try clear hk); (try clear hi); have hnb86 := NB584_591.out; have hnc86 := NB591_584.out; have hnb87 := NB584_595.out; have hnc87 := NB595_584.out; obtain ⟨hcz88_0, hcz88_1, hcz88_2, hcz88_3, hfz88_0, hfz88_1, hfz88_2, hfz88_3⟩ := cz4 BK584.out) | ((with_reducible refine gate_callee (f := 21) rfl ?_); refine goesL_ (some 72) rfl rfl Tryd.func21 (by kernel_rfl) rfl #[.agg #[.int .i64 x585000_16, .int .u64 x585001_16, .string x585002_16, .slice none 0 0]] rfl za ?_; (refine (amqprim_Check.calls x585000_16 x585001_16 x585002_16 _ _ ([] : List (Vl)) t625 _ ?side1 ?side2 ?side3 A70.out).mono ?_); (case side1 => exact HT.out.below (by repeat (first | (with_reducible first | exact HB.out | apply below_alloc | apply pw_below_drewN | apply below_drew1 | refine below_set ?_ (IsS141.ge HI595.out) | refine below_set ?_ GE584.out | refine below_set ?_ GE591.out) | exact HB.out))); (case side2 => exact Kd.C_nil _ _); (case side3 => exact Nat.le_refl _); rintro e w89 ⟨rfl, hb⟩; refine ⟨_, rfl, ?_⟩; replace BK584 := Aside0.mk (zbb BK584.out hb); replace BK591 := Aside0.mk (zbb BK591.out hb); replace HB := Aside0.mk (below_step (by repeat (first | (with_reducible first | exact HB.out | apply below_alloc | apply pw_below_drewN | apply below_drew1 | refine below_set ?_ (IsS141.ge HI595.out) | refine below_set ?_ GE584.out | refine below_set ?_ GE591.out) | exact HB.out)) hb); replace HI595 := Aside0.mk (IsS141.below (by repeat (first | (with_reducible first | exact HI595.out | apply IsS141.alloc | apply IsS141.drewN | apply IsS141.drew | apply IsS141.set_0 | apply IsS141.set_1 | apply IsS141.set_2 | refine IsS141.far ?_ NB595_584.out _ | refine IsS141.far ?_ NB595_591.out _) | exact HI595.out)) hb); (try clear hb); (try clear hb2); (try clear hk); (try clear hi); obtain ⟨hcz90_0, hcz90_1, hcz90_2, hcz90_3, hfz90_0, hfz90_1, hfz90_2, hfz90_3⟩ := cz4 BK584.out))
          refine bodyPost_ret (results_ctt rfl _ _ gb584 25 #[.int .i64 0, .int .u64 0, .string (⟨#[]⟩ : ByteArray), .slice none 0 0] (0, 0) _ rfl (zp4 BK584.out _ _ _ _) Tryd.underlying25 rfl (by kernel_rfl)) rfl ?_
          exact ⟨_, ze, zn, by repeat (first | (with_reducible first | exact HB.out | apply below_alloc | apply pw_below_drewN | apply below_drew1 | refine below_set ?_ (IsS141.ge HI595.out) | refine below_set ?_ GE584.out | refine below_set ?_ GE591.out) | exact HB.out)⟩
         ·rw [if_neg c84] at H
          have c84b0 : (t625 == 2) = false := beq_eq_false_iff_ne.mpr c84
          have c84b1 : (t625 != 2) = true := bne_iff_ne.mpr c84
          simp only [Option.some.injEq, Prod.mk.injEq] at H
          obtain ⟨rfl, rfl, rfl, rfl, rfl, rfl⟩ := H
          go_wp2_with (first | ((with_reducible refine gate_callee (f := 99) rfl ?_); refine goesL_ (some 66) rfl rfl Tryd.func99 (by kernel_rfl) rfl #[.pointer (some ⟨g595, 0, none⟩)] rfl za ?_; (with_reducible refine (octet_Cursor_Err.calls g595 x596000_16 x596001_16 x596002_16 t617 t618 t619 t620 w _ ?side1 ?side2 A68.out).mono ?_); (case side1 => repeat (first | (with_reducible first | exact HI595.out | apply IsS141.alloc | apply IsS141.drewN | apply IsS141.drew | apply IsS141.set_0 | apply IsS141.set_1 | apply IsS141.set_2 | refine IsS141.far ?_ NB595_584.out _ | refine IsS141.far ?_ NB595_591.out _) | exact HI595.out)); (case side2 => repeat (first | (with_reducible first | exact HB.out | apply below_alloc | apply pw_below_drewN | apply below_drew1 | refine below_set ?_ (IsS141.ge HI595.out) | refine below_set ?_ GE584.out | refine below_set ?_ GE591.out) | exact HB.out)); rintro e w91 ⟨rfl, hi, hb, hk⟩; refine ⟨_, rfl, ?_⟩; replace BK584 := Aside0.mk (zkb BK584.out hk NB584_595.out); replace BK591 := Aside0.mk (zkb BK591.out hk NB591_595.out); replace HB := Aside0.mk (hb); replace HI595 := Aside0.mk (hi); (try clear hb); (try clear hb2); (try clear hk); (try clear hi); have hnb92 := NB584_591.out; have hnc92 := NB591_584.out; have hnb93 := NB584_595.out; have hnc93 := NB595_584.out; obtain ⟨hcz94_0, hcz94_1, hcz94_2, hcz94_3, hfz94_0, hfz94_1, hfz94_2, hfz94_3⟩ := cz4 BK584.out) | ((with_reducible refine gate_callee (f := 21) rfl ?_); refine goesL_ (some 72) rfl rfl Tryd.func21 (by kernel_rfl) rfl #[.agg #[.int .i64 x585000_16, .int .u64 x585001_16, .string x585002_16, .slice none 0 0]] rfl za ?_; (refine (amqprim_Check.calls x585000_16 x585001_16 x585002_16 _ _ ([] : List (Vl)) t625 _ ?side1 ?side2 ?side3 A70.out).mono ?_); (case side1 => exact HT.out.below (by repeat (first | (with_reducible first | exact HB.out | apply below_alloc | apply pw_below_drewN | apply below_drew1 | refine below_set ?_ (IsS141.ge HI595.out) | refine below_set ?_ GE584.out | refine below_set ?_ GE591.out) | exact HB.out))); (case side2 => exact Kd.C_nil _ _); (case side3 => exact Nat.le_refl _); rintro e w95 ⟨rfl, hb⟩; refine ⟨_, rfl, ?_⟩; replace BK584 := Aside0.mk (zbb BK584.out hb); replace BK591 := Aside0.mk (zbb BK591.out hb); replace HB := Aside0.mk (below_step (by repeat (first | (with_reducible first | exact HB.out | apply below_alloc | apply pw_below_drewN | apply below_drew1 | refine below_set ?_ (IsS141.ge HI595.out) | refine below_set ?_ GE584.out | refine below_set ?_ GE591.out) | exact HB.out)) hb); replace HI595 := Aside0.mk (IsS141.below (by repeat (first | (with_reducible first | exact HI595.out | apply IsS141.alloc | apply IsS141.drewN | apply IsS141.drew | apply IsS141.set_0 | apply IsS141.set_1 | apply IsS141.set_2 | refine IsS141.far ?_ NB595_584.out _ | refine IsS141.far ?_ NB595_591.out _) | exact HI595.out)) hb); (try clear hb); (try clear hb2); (try clear hk); (try clear hi); obtain ⟨hcz96_0, hcz96_1, hcz96_2, hcz96_3, hfz96_0, hfz96_1, hfz96_2, hfz96_3⟩ := cz4 BK584.out))
          refine bodyPost_ret (results_ctt rfl _ _ gb584 25 #[.int .i64 0, .int .u64 0, .string (⟨#[]⟩ : ByteArray), .slice none 0 0] (0, 0) _ rfl (zp4 BK584.out _ _ _ _) Tryd.underlying25 rfl (by kernel_rfl)) rfl ?_
          exact ⟨_, ze, zn, by repeat (first | (with_reducible first | exact HB.out | apply below_alloc | apply pw_below_drewN | apply below_drew1 | refine below_set ?_ (IsS141.ge HI595.out) | refine below_set ?_ GE584.out | refine below_set ?_ GE591.out) | exact HB.out)⟩
       ·rw [if_neg c69] at H
        have c69b0 : (t617 == 0) = false := beq_eq_false_iff_ne.mpr c69
        have c69b1 : (t617 != 0) = true := bne_iff_ne.mpr c69
        obtain ⟨⟨t621, t622, t623, t624⟩, A97, H⟩ := zbd H
        dsimp only at H
        simp only [Option.some.injEq, Prod.mk.injEq] at H
        obtain ⟨rfl, rfl, rfl, rfl, rfl, rfl⟩ := H
        go_wp2_with (first | ((with_reducible refine gate_callee (f := 99) rfl ?_); refine goesL_ (some 66) rfl rfl Tryd.func99 (by kernel_rfl) rfl #[.pointer (some ⟨g595, 0, none⟩)] rfl za ?_; (with_reducible refine (octet_Cursor_Err.calls g595 x596000_16 x596001_16 x596002_16 t617 t618 t619 t620 w _ ?side1 ?side2 A68.out).mono ?_); (case side1 => repeat (first | (with_reducible first | exact HI595.out | apply IsS141.alloc | apply IsS141.drewN | apply IsS141.drew | apply IsS141.set_0 | apply IsS141.set_1 | apply IsS141.set_2 | refine IsS141.far ?_ NB595_584.out _ | refine IsS141.far ?_ NB595_591.out _) | exact HI595.out)); (case side2 => repeat (first | (with_reducible first | exact HB.out | apply below_alloc | apply pw_below_drewN | apply below_drew1 | refine below_set ?_ (IsS141.ge HI595.out) | refine below_set ?_ GE584.out | refine below_set ?_ GE591.out) | exact HB.out)); rintro e w98 ⟨rfl, hi, hb, hk⟩; refine ⟨_, rfl, ?_⟩; replace BK584 := Aside0.mk (zkb BK584.out hk NB584_595.out); replace BK591 := Aside0.mk (zkb BK591.out hk NB591_595.out); replace HB := Aside0.mk (hb); replace HI595 := Aside0.mk (hi); (try clear hb); (try clear hb2); (try clear hk); (try clear hi)) | ((with_reducible refine gate_callee (f := 99) rfl ?_); refine goesL_ (some 70) rfl rfl Tryd.func99 (by kernel_rfl) rfl #[.pointer (some ⟨g595, 0, none⟩)] rfl za ?_; (with_reducible refine (octet_Cursor_Err.calls g595 t618 t619 t620 t621 t622 t623 t624 w _ ?side1 ?side2 A97.out).mono ?_); (case side1 => repeat (first | (with_reducible first | exact HI595.out | apply IsS141.alloc | apply IsS141.drewN | apply IsS141.drew | apply IsS141.set_0 | apply IsS141.set_1 | apply IsS141.set_2 | refine IsS141.far ?_ NB595_584.out _ | refine IsS141.far ?_ NB595_591.out _) | exact HI595.out)); (case side2 => repeat (first | (with_reducible first | exact HB.out | apply below_alloc | apply pw_below_drewN | apply below_drew1 | refine below_set ?_ (IsS141.ge HI595.out) | refine below_set ?_ GE584.out | refine below_set ?_ GE591.out) | exact HB.out)); rintro e w99 ⟨rfl, hi, hb, hk⟩; refine ⟨_, rfl, ?_⟩; replace BK584 := Aside0.mk (zkb BK584.out hk NB584_595.out); replace BK591 := Aside0.mk (zkb BK591.out hk NB591_595.out); replace HB := Aside0.mk (hb); replace HI595 := Aside0.mk (hi); (try clear hb); (try clear hb2); (try clear hk); (try clear hi); have hnb100 := NB584_591.out; have hnc100 := NB591_584.out; have hnb101 := NB584_595.out; have hnc101 := NB595_584.out; obtain ⟨hcz102_0, hcz102_1, hcz102_2, hcz102_3, hfz102_0, hfz102_1, hfz102_2, hfz102_3⟩ := cz4 BK584.out))
        refine bodyPost_ret (results_ctt rfl _ _ gb584 25 #[.int .i64 0, .int .u64 0, .string (⟨#[]⟩ : ByteArray), .slice none 0 0] (0, 0) _ rfl (zp4 BK584.out _ _ _ _) Tryd.underlying25 rfl (by kernel_rfl)) rfl ?_
        exact ⟨_, ze, zn, by repeat (first | (with_reducible first | exact HB.out | apply below_alloc | apply pw_below_drewN | apply below_drew1 | refine below_set ?_ (IsS141.ge HI595.out) | refine below_set ?_ GE584.out | refine below_set ?_ GE591.out) | exact HB.out)⟩
end Go.Proofs.YtekpofpgkokoiaaDoor.Q
