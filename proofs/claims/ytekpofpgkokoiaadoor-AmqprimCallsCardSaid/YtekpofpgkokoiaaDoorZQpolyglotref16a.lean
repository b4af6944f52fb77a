/- A part of this claim: what its theorem leans on. -/
import Derived.Test.YtekpofpgkokoiaaDoorZQ0
import Derived.Test.YtekpofpgkokoiaaDoorZZz
import Derived.Test.YtekpofpgkokoiaaDoorZQpolyglotref16aD
import Derived.Test.YtekpofpgkokoiaaDoorZQref16ofaD
import Derived.Test.YtekpofpgkokoiaaDoorZQref16bigaD
import Derived.Test.YtekpofpgkokoiaaDoorZQref16ofa
import Derived.Test.YtekpofpgkokoiaaDoorZQref16biga
namespace Go.Proofs.YtekpofpgkokoiaaDoor.Q
open Go.RowKit Go.Proofs.YtekpofpgkokoiaaDoor.M Go.Proofs.YtekpofpgkokoiaaDoorW.PrintWords Go.Proofs.YtekpofpgkokoiaaDoorW.PrintLast Go.Proofs.YtekpofpgkokoiaaDoorW.PrintMore
attribute [local go_sem] max2_int min2_int max_two min_two max_three min_three max_four min_four
set_option linter.unusedVariables false
set_option linter.unusedSimpArgs false
set_option maxHeartbeats 8000000 in
set_option maxRecDepth 100000 in
theorem polyglotref16_signed.calls (a0 : Int) (a1 : Int) (r : Bool) (w : World) (h : polyglotref16_signed.f a0 a1 = some r) :
    Calls Tryd.prog 108 #[.int .u64 a0, .int .u64 a1] w fun e w' => e = .returned (.bool r) ∧ Drawn0 w w' := by
  have H : (if 0 ≤ (IntKind.u64.wrap (a1 - 1)) then (if a0 < (shl .u64 1 (IntKind.u64.wrap (a1 - 1))) then (some true) else (some (decide (a0 ≥ (IntKind.u64.wrap (-(shl .u64 1 (IntKind.u64.wrap (a1 - 1))))))))) else (none)) = some r := h
  clear h
  obtain ⟨ji3, hji3⟩ : ∃ j_ : Int, (IntKind.u64.wrap (a1 - 1)) = j_ := ⟨_, rfl⟩
  replace H : (if 0 ≤ (ji3) then (if a0 < (shl .u64 1 (ji3)) then (some true) else (some (decide (a0 ≥ (IntKind.u64.wrap (-(shl .u64 1 (ji3)))))))) else (none)) = some r := by first | (rw [hji3] at H; exact H) | (simp only [hji3] at H ⊢; exact H)
  by_cases c4 : 0 ≤ (ji3)
  ·rw [if_pos c4] at H
   have c4b0 := eq_true c4
   have c4b1 : decide (0 ≤ (ji3)) = true := decide_eq_true c4
   clear c4
   obtain ⟨ji5, hji5⟩ : ∃ j_ : Int, (shl .u64 1 (ji3)) = j_ := ⟨_, rfl⟩
   replace H : (if a0 < (ji5) then (some true) else (some (decide (a0 ≥ (IntKind.u64.wrap (-(ji5))))))) = some r := by first | (rw [hji5] at H; exact H) | (simp only [hji5] at H ⊢; exact H)
   have hji5_ : (IntKind.u64.wrap (1 * 2 ^ min (ji3).toNat 64)) = ji5 := hji5
   have hji5z : (ji3) ≤ 64 → (IntKind.u64.wrap (1 * 2 ^ (ji3).toNat)) = ji5 := shl_small hji5
   have hji5u : (IntKind.u64.wrap (2 ^ min (ji3).toNat 64)) = ji5 := by have h_ := hji5_; rw [Int.one_mul] at h_; exact h_
   have hji5v : (ji3) ≤ 64 → (IntKind.u64.wrap (2 ^ (ji3).toNat)) = ji5 := fun hle_ => by have h_ := hji5z hle_; rw [Int.one_mul] at h_; exact h_
   by_cases c6 : a0 < (ji5)
   ·rw [if_pos c6] at H
    have c6b0 : decide (a0 < (ji5)) = true := decide_eq_true c6
    clear c6
    obtain rfl := Option.some.inj H
    go_enter Tryd.func108, Tryd.ntmps108
    go_wp2
    go_ret
    exact ⟨by first | rfl | (simp; done) | (simp only [← hji3, ← hji5] <;> (first | rfl | simp)) | (simp [*]; done), zd⟩
   ·rw [if_neg c6] at H
    have c6b0 : decide (a0 < (ji5)) = false := decide_eq_false c6
    clear c6
    obtain rfl := Option.some.inj H
    go_enter Tryd.func108, Tryd.ntmps108
    go_wp2
    go_ret
    exact ⟨by first | rfl | (simp; done) | (simp only [← hji3, ← hji5] <;> (first | rfl | simp)) | (simp [*]; done), zd⟩
  ·rw [if_neg c4] at H
   exact absurd H (by simp)
set_option maxHeartbeats 8000000 in
set_option maxRecDepth 100000 in
theorem polyglotref16_bits.calls (k : Nat) (a0 : Int) (r : Int) (w : World) (h : polyglotref16_bits.f k a0 = some r) :
    Calls Tryd.prog 141 #[.int .i64 a0] w fun e w' => e = .returned (.int .i64 r) ∧ Drawn0 w w' := by
  have H : (if a0 = 2 then (some 1) else (if a0 = 3 then (some 8) else (if a0 = 4 then (some 16) else (if a0 = 5 then (polyglotref16_bits.j0 k a0 (a0 == 5)) else (if a0 = 11 then (polyglotref16_bits.j0 k a0 (a0 == 11)) else (if a0 = 13 then (polyglotref16_bits.j0 k a0 (a0 == 13)) else (polyglotref16_bits.j0 k a0 (a0 == 16)))))))) = some r := h
  clear h
  by_cases c2 : a0 = 2
  ·rw [if_pos c2] at H
   have c2b0 : (a0 == 2) = true := beq_iff_eq.mpr c2
   have c2b1 : (a0 != 2) = false := bne_eq_false_iff_eq.mpr c2
   clear c2
   obtain rfl := Option.some.inj H
   go_enter Tryd.func141, Tryd.ntmps141
   go_wp2
   go_ret
   exact ⟨zt, zd⟩
  ·rw [if_neg c2] at H
   have c2b0 : (a0 == 2) = false := beq_eq_false_iff_ne.mpr c2
   have c2b1 : (a0 != 2) = true := bne_iff_ne.mpr c2
   by_cases c3 : a0 = 3
   ·rw [if_pos c3] at H
    have c3b0 : (a0 == 3) = true := beq_iff_eq.mpr c3
    have c3b1 : (a0 != 3) = false := bne_eq_false_iff_eq.mpr c3
    clear c3
    obtain rfl := Option.some.inj H
    go_enter Tryd.func141, Tryd.ntmps141
    go_wp2
    go_ret
    exact ⟨zt, zd⟩
   ·rw [if_neg c3] at H
    have c3b0 : (a0 == 3) = false := beq_eq_false_iff_ne.mpr c3
    have c3b1 : (a0 != 3) = true := bne_iff_ne.mpr c3
    by_cases c4 : a0 = 4
    ·rw [if_pos c4] at H
     have c4b0 : (a0 == 4) = true := beq_iff_eq.mpr c4
     have c4b1 : (a0 != 4) = false := bne_eq_false_iff_eq.mpr c4
     clear c4
     obtain rfl := Option.some.inj H
     go_enter Tryd.func141, Tryd.ntmps141
     go_wp2
     go_ret
     exact ⟨zt, zd⟩
    ·rw [if_neg c4] at H
     have c4b0 : (a0 == 4) = false := beq_eq_false_iff_ne.mpr c4
     have c4b1 : (a0 != 4) = true := bne_iff_ne.mpr c4
     have HC5 := Aside0.mk H
     clear H
     go_enter Tryd.func141, Tryd.ntmps141
     go_upto_if 10 with (fail)
     go_cut [10] (fun v10 wc => ∃ (kq : Nat) (x10_4 : Bool), v10 = .bool x10_4 ∧ Aside0 (polyglotref16_bits.j0 kq a0 x10_4 = some r) ∧ Aside0 (kq ≤ k) ∧ Drawn0 w wc)
     case first =>
      have H := HC5.out
      clear HC5
      by_cases c6 : a0 = 5
      ·rw [if_pos c6] at H
       have c6b0 : (a0 == 5) = true := beq_iff_eq.mpr c6
       have c6b1 : (a0 != 5) = false := bne_eq_false_iff_eq.mpr c6
       clear c6
       (first | rw [c6b0] | (simp only [i64_w, i32_w]; rw [c6b0]) | skip)
       have H' := Aside0.mk H
       clear H
       go_wp2
       go_meet
       case rel => exact ⟨_, ((a0 == 5)), zt, H', ⟨zo⟩, zd⟩
      ·rw [if_neg c6] at H
       have c6b0 : (a0 == 5) = false := beq_eq_false_iff_ne.mpr c6
       have c6b1 : (a0 != 5) = true := bne_iff_ne.mpr c6
       (first | rw [c6b0] | (simp only [i64_w, i32_w]; rw [c6b0]) | skip)
       by_cases c7 : a0 = 11
       ·rw [if_pos c7] at H
        have c7b0 : (a0 == 11) = true := beq_iff_eq.mpr c7
        have c7b1 : (a0 != 11) = false := bne_eq_false_iff_eq.mpr c7
        clear c7
        have H' := Aside0.mk H
        clear H
        go_wp2
        go_meet
        case rel => exact ⟨_, ((a0 == 11)), zt, H', ⟨zo⟩, zd⟩
       ·rw [if_neg c7] at H
        have c7b0 : (a0 == 11) = false := beq_eq_false_iff_ne.mpr c7
        have c7b1 : (a0 != 11) = true := bne_iff_ne.mpr c7
        by_cases c8 : a0 = 13
        ·rw [if_pos c8] at H
         have c8b0 : (a0 == 13) = true := beq_iff_eq.mpr c8
         have c8b1 : (a0 != 13) = false := bne_eq_false_iff_eq.mpr c8
         clear c8
         have H' := Aside0.mk H
         clear H
         go_wp2
         go_meet
         case rel => exact ⟨_, ((a0 == 13)), zt, H', ⟨zo⟩, zd⟩
        ·rw [if_neg c8] at H
         have c8b0 : (a0 == 13) = false := beq_eq_false_iff_ne.mpr c8
         have c8b1 : (a0 != 13) = true := bne_iff_ne.mpr c8
         have H' := Aside0.mk H
         clear H
         go_wp2
         go_meet
         case rel => exact ⟨_, ((a0 == 16)), zt, H', ⟨zo⟩, zd⟩
     case rest =>
      clear HC5
      try clear c2
      try clear c2b0
      try clear c2b1
      try clear c3
      try clear c3b0
      try clear c3b1
      try clear c4
      try clear c4b0
      try clear c4b1
      obtain ⟨kq, x10_4, rfl, HA, HJ4, ⟨mc4, rfl⟩⟩ := hcut
      cases kq with
      | zero => exact absurd HA.out (by simp [polyglotref16_bits.j0])
      | succ kj4 =>
       have H := HA.out
       clear HA
       simp only [polyglotref16_bits.j0] at H
       by_cases c9 : x10_4 = true
       ·subst c9
        replace H := zyes H
        obtain rfl := Option.some.inj H
        go_wp2
        go_ret
        exact ⟨zt, zd⟩
       ·replace c9 := Bool.eq_false_iff.mpr c9
        subst c9
        replace H := zno H
        have HC10 := Aside0.mk H
        clear H
        go_upto_if 15 with (fail)
        go_cut [15] (fun v15 wc => ∃ (kq : Nat) (x15_9 : Bool), v15 = .bool x15_9 ∧ Aside0 (polyglotref16_bits.j1 kq a0 x15_9 = some r) ∧ Aside0 (kq ≤ kj4) ∧ Drawn0 w wc)
        case first =>
         have H := HC10.out
         clear HC10
         by_cases c11 : a0 = 6
         ·rw [if_pos c11] at H
          have c11b0 : (a0 == 6) = true := beq_iff_eq.mpr c11
          have c11b1 : (a0 != 6) = false := bne_eq_false_iff_eq.mpr c11
          clear c11
          (first | rw [c11b0] | (simp only [i64_w, i32_w]; rw [c11b0]) | skip)
          have H' := Aside0.mk H
          clear H
          go_wp2
          go_meet
          case rel => exact ⟨_, ((a0 == 6)), zt, H', ⟨zoj HJ4.out⟩, zd⟩
         ·rw [if_neg c11] at H
          have c11b0 : (a0 == 6) = false := beq_eq_false_iff_ne.mpr c11
          have c11b1 : (a0 != 6) = true := bne_iff_ne.mpr c11
          (first | rw [c11b0] | (simp only [i64_w, i32_w]; rw [c11b0]) | skip)
          by_cases c12 : a0 = 12
          ·rw [if_pos c12] at H
           have c12b0 : (a0 == 12) = true := beq_iff_eq.mpr c12
           have c12b1 : (a0 != 12) = false := bne_eq_false_iff_eq.mpr c12
           clear c12
           have H' := Aside0.mk H
           clear H
           go_wp2
           go_meet
           case rel => exact ⟨_, ((a0 == 12)), zt, H', ⟨zoj HJ4.out⟩, zd⟩
          ·rw [if_neg c12] at H
           have c12b0 : (a0 == 12) = false := beq_eq_false_iff_ne.mpr c12
           have c12b1 : (a0 != 12) = true := bne_iff_ne.mpr c12
           by_cases c13 : a0 = 14
           ·rw [if_pos c13] at H
            have c13b0 : (a0 == 14) = true := beq_iff_eq.mpr c13
            have c13b1 : (a0 != 14) = false := bne_eq_false_iff_eq.mpr c13
            clear c13
            have H' := Aside0.mk H
            clear H
            go_wp2
            go_meet
            case rel => exact ⟨_, ((a0 == 14)), zt, H', ⟨zoj HJ4.out⟩, zd⟩
           ·rw [if_neg c13] at H
            have c13b0 : (a0 == 14) = false := beq_eq_false_iff_ne.mpr c13
            have c13b1 : (a0 != 14) = true := bne_iff_ne.mpr c13
            by_cases c14 : a0 = 17
            ·rw [if_pos c14] at H
             have c14b0 : (a0 == 17) = true := beq_iff_eq.mpr c14
             have c14b1 : (a0 != 17) = false := bne_eq_false_iff_eq.mpr c14
             clear c14
             have H' := Aside0.mk H
             clear H
             go_wp2
             go_meet
             case rel => exact ⟨_, ((a0 == 17)), zt, H', ⟨zoj HJ4.out⟩, zd⟩
            ·rw [if_neg c14] at H
             have c14b0 : (a0 == 17) = false := beq_eq_false_iff_ne.mpr c14
             have c14b1 : (a0 != 17) = true := bne_iff_ne.mpr c14
             have H' := Aside0.mk H
             clear H
             go_wp2
             go_meet
             case rel => exact ⟨_, ((a0 == 10)), zt, H', ⟨zoj HJ4.out⟩, zd⟩
        case rest =>
         clear HC10
         try clear c2
         try clear c2b0
         try clear c2b1
         try clear c3
         try clear c3b0
         try clear c3b1
         try clear c4
         try clear c4b0
         try clear c4b1
         try clear c9
         obtain ⟨kq, x15_9, rfl, HA, HJ9, ⟨mc9, rfl⟩⟩ := hcut
         cases kq with
         | zero => exact absurd HA.out (by simp [polyglotref16_bits.j1])
         | succ kj9 =>
          have H := HA.out
          clear HA
          simp only [polyglotref16_bits.j1] at H
          by_cases c15 : x15_9 = true
          ·subst c15
           replace H := zyes H
           obtain rfl := Option.some.inj H
           go_wp2
           go_ret
           exact ⟨zt, zd⟩
          ·replace c15 := Bool.eq_false_iff.mpr c15
           subst c15
           replace H := zno H
           by_cases c16 : a0 = 7
           ·rw [if_pos c16] at H
            have c16b0 : (a0 == 7) = true := beq_iff_eq.mpr c16
            have c16b1 : (a0 != 7) = false := bne_eq_false_iff_eq.mpr c16
            clear c16
            obtain rfl := Option.some.inj H
            go_wp2
            go_ret
            exact ⟨zt, zd⟩
           ·rw [if_neg c16] at H
            have c16b0 : (a0 == 7) = false := beq_eq_false_iff_ne.mpr c16
            have c16b1 : (a0 != 7) = true := bne_iff_ne.mpr c16
            by_cases c17 : a0 = 8
            ·rw [if_pos c17] at H
             have c17b0 : (a0 == 8) = true := beq_iff_eq.mpr c17
             have c17b1 : (a0 != 8) = false := bne_eq_false_iff_eq.mpr c17
             clear c17
             obtain rfl := Option.some.inj H
             go_wp2
             go_ret
             exact ⟨zt, zd⟩
            ·rw [if_neg c17] at H
             have c17b0 : (a0 == 8) = false := beq_eq_false_iff_ne.mpr c17
             have c17b1 : (a0 != 8) = true := bne_iff_ne.mpr c17
             by_cases c18 : a0 = 9
             ·rw [if_pos c18] at H
              have c18b0 : (a0 == 9) = true := beq_iff_eq.mpr c18
              have c18b1 : (a0 != 9) = false := bne_eq_false_iff_eq.mpr c18
              clear c18
              obtain rfl := Option.some.inj H
              go_wp2
              go_ret
              exact ⟨zt, zd⟩
             ·rw [if_neg c18] at H
              have c18b0 : (a0 == 9) = false := beq_eq_false_iff_ne.mpr c18
              have c18b1 : (a0 != 9) = true := bne_iff_ne.mpr c18
              obtain rfl := Option.some.inj H
              go_wp2
              go_ret
              exact ⟨zt, zd⟩
set_option maxHeartbeats 8000000 in
set_option maxRecDepth 100000 in
theorem polyglotref16_char.calls (a0 : Int) (r : Bool) (w : World) (h : polyglotref16_char.f a0 = some r) :
    Calls Tryd.prog 142 #[.int .u64 a0] w fun e w' => e = .returned (.bool r) ∧ Drawn0 w w' := by
  have H : (if a0 ≤ 1114111 then (if a0 < 55296 then (some true) else (some (decide (a0 > 57343)))) else (some false)) = some r := h
  clear h
  by_cases c2 : a0 ≤ 1114111
  ·rw [if_pos c2] at H
   have c2b0 : decide (a0 ≤ 1114111) = true := decide_eq_true c2
   clear c2
   by_cases c3 : a0 < 55296
   ·rw [if_pos c3] at H
    have c3b0 : decide (a0 < 55296) = true := decide_eq_true c3
    clear c3
    obtain rfl := Option.some.inj H
    go_enter Tryd.func142, Tryd.ntmps142
    go_wp2
    go_ret
    exact ⟨zt, zd⟩
   ·rw [if_neg c3] at H
    have c3b0 : decide (a0 < 55296) = false := decide_eq_false c3
    clear c3
    obtain rfl := Option.some.inj H
    go_enter Tryd.func142, Tryd.ntmps142
    go_wp2
    go_ret
    exact ⟨zt, zd⟩
  ·rw [if_neg c2] at H
   have c2b0 : decide (a0 ≤ 1114111) = false := decide_eq_false c2
   clear c2
   obtain rfl := Option.some.inj H
   go_enter Tryd.func142, Tryd.ntmps142
   go_wp2
   go_ret
   exact ⟨zt, zd⟩
set_option maxHeartbeats 8000000 in
set_option maxRecDepth 100000 in
theorem polyglotref16_ranged.calls (k : Nat) (a0_0 : Int) (a0_1 : Int) (a0_2 : ByteArray) (A0_3 : Option Addr) (c0_3 : Nat) (l0_3 : List (Vl)) (r : Bool) (w : World) (hr0_3 : Kd.C kV w A0_3 l0_3.length l0_3) (hc0_3 : l0_3.length ≤ c0_3) (h : polyglotref16_ranged.f k a0_0 a0_1 a0_2 l0_3 = some r) :
    Calls Tryd.prog 104 #[.agg #[.int .i64 a0_0, .int .u64 a0_1, .string a0_2, .slice A0_3 l0_3.length c0_3]] w fun e w' => e = .returned (.bool r) ∧ Below w.heap.size w w' := by
  have hu25 := Tryd.underlying25
  have HR0_3 := Aside0.mk hr0_3
  have HC0_3 := Aside0.mk hc0_3
  clear hr0_3 hc0_3
  have HB := Aside0.mk (Below.refl w.heap.size w)
  have H : ((polyglotref16_bits.f k a0_0).bind fun t306 => (if a0_0 = 16 then ((polyglotref16_char.f a0_1).bind fun t307 => (some t307)) else (if t306 = 0 then (some (a0_1 == 0)) else (if t306 < 0 then ((polyglotref16_signed.f a0_1 (IntKind.u64.wrap (wrap64 (-t306)))).bind fun t308 => (some t308)) else (if t306 = 64 then (some true) else (if 0 ≤ (IntKind.u64.wrap (t306)) then (some (decide (a0_1 < (shl .u64 1 (IntKind.u64.wrap (t306)))))) else (none))))))) = some r := h
  clear h
  obtain ⟨t306, A2, H⟩ := zbd H
  by_cases c3 : a0_0 = 16
  ·rw [if_pos c3] at H
   have c3b0 : (a0_0 == 16) = true := beq_iff_eq.mpr c3
   have c3b1 : (a0_0 != 16) = false := bne_eq_false_iff_eq.mpr c3
   clear c3
   obtain ⟨t307, A4, H⟩ := zbd H
   obtain rfl := Option.some.inj H
   go_enter Tryd.func104, Tryd.ntmps104
   go_wp2_with (first | ((with_reducible refine gate_dst (N := 1) rfl ?_); refine box_event rfl (N := 1) rfl (cs := #[.int .i64 a0_0, .int .u64 a0_1, .string a0_2, .slice A0_3 l0_3.length c0_3]) (t := 25) zh ?_; intro gb305 hg w5 hbox hb; have BK305 := Aside0.mk (hbox); have GW305 := Aside0.mk ((zge (w := w) hg)); have GE305 := Aside0.mk ((zge (w := w) hg)); replace HB := Aside0.mk (below_step zb hb); clear hb hbox hg; obtain ⟨hcz6_0, hcz6_1, hcz6_2, hcz6_3, hfz6_0, hfz6_1, hfz6_2, hfz6_3⟩ := cz4 BK305.out) | ((with_reducible refine gate_callee (f := 141) rfl ?_); refine goesL_ (some 6) rfl rfl Tryd.func141 (by kernel_rfl) rfl #[.int .i64 a0_0] rfl za ?_; (with_reducible refine (polyglotref16_bits.calls k a0_0 t306 _ A2.out).mono ?_); rintro e w' ⟨rfl, ⟨nd, rfl⟩⟩; refine ⟨_, rfl, ?_⟩) | ((with_reducible refine gate_callee (f := 142) rfl ?_); refine goesL_ (some 13) rfl rfl Tryd.func142 (by kernel_rfl) rfl #[.int .u64 a0_1] rfl za ?_; (with_reducible refine (polyglotref16_char.calls a0_1 t307 _ A4.out).mono ?_); rintro e w' ⟨rfl, ⟨nd, rfl⟩⟩; refine ⟨_, rfl, ?_⟩))
   go_ret
   exact ⟨ze, zb⟩
  ·rw [if_neg c3] at H
   have c3b0 : (a0_0 == 16) = false := beq_eq_false_iff_ne.mpr c3
   have c3b1 : (a0_0 != 16) = true := bne_iff_ne.mpr c3
   by_cases c7 : t306 = 0
   ·rw [if_pos c7] at H
    have c7b0 : (t306 == 0) = true := beq_iff_eq.mpr c7
    have c7b1 : (t306 != 0) = false := bne_eq_false_iff_eq.mpr c7
    clear c7
    obtain rfl := Option.some.inj H
    go_enter Tryd.func104, Tryd.ntmps104
    go_wp2_with (first | ((with_reducible refine gate_dst (N := 1) rfl ?_); refine box_event rfl (N := 1) rfl (cs := #[.int .i64 a0_0, .int .u64 a0_1, .string a0_2, .slice A0_3 l0_3.length c0_3]) (t := 25) zh ?_; intro gb305 hg w8 hbox hb; have BK305 := Aside0.mk (hbox); have GW305 := Aside0.mk ((zge (w := w) hg)); have GE305 := Aside0.mk ((zge (w := w) hg)); replace HB := Aside0.mk (below_step zb hb); clear hb hbox hg; obtain ⟨hcz9_0, hcz9_1, hcz9_2, hcz9_3, hfz9_0, hfz9_1, hfz9_2, hfz9_3⟩ := cz4 BK305.out) | ((with_reducible refine gate_callee (f := 141) rfl ?_); refine goesL_ (some 6) rfl rfl Tryd.func141 (by kernel_rfl) rfl #[.int .i64 a0_0] rfl za ?_; (with_reducible refine (polyglotref16_bits.calls k a0_0 t306 _ A2.out).mono ?_); rintro e w' ⟨rfl, ⟨nd, rfl⟩⟩; refine ⟨_, rfl, ?_⟩))
    go_ret
    exact ⟨ze, zb⟩
   ·rw [if_neg c7] at H
    have c7b0 : (t306 == 0) = false := beq_eq_false_iff_ne.mpr c7
    have c7b1 : (t306 != 0) = true := bne_iff_ne.mpr c7
    by_cases c10 : t306 < 0
    ·rw [if_pos c10] at H
     have c10b0 : decide (t306 < 0) = true := decide_eq_true c10
     clear c10
     obtain ⟨t308, A11, H⟩ := zbd H
     obtain rfl := Option.some.inj H
     go_enter Tryd.func104, Tryd.ntmps104
     go_wp2_with (first | ((with_reducible refine gate_dst (N := 1) rfl ?_); refine box_event rfl (N := 1) rfl (cs := #[.int .i64 a0_0, .int .u64 a0_1, .string a0_2, .slice A0_3 l0_3.length c0_3]) (t := 25) zh ?_; intro gb305 hg w12 hbox hb; have BK305 := Aside0.mk (hbox); have GW305 := Aside0.mk ((zge (w := w) hg)); have GE305 := Aside0.mk ((zge (w := w) hg)); replace HB := Aside0.mk (below_step zb hb); clear hb hbox hg; obtain ⟨hcz13_0, hcz13_1, hcz13_2, hcz13_3, hfz13_0, hfz13_1, hfz13_2, hfz13_3⟩ := cz4 BK305.out) | ((with_reducible refine gate_callee (f := 141) rfl ?_); refine goesL_ (some 6) rfl rfl Tryd.func141 (by kernel_rfl) rfl #[.int .i64 a0_0] rfl za ?_; (with_reducible refine (polyglotref16_bits.calls k a0_0 t306 _ A2.out).mono ?_); rintro e w' ⟨rfl, ⟨nd, rfl⟩⟩; refine ⟨_, rfl, ?_⟩) | ((with_reducible refine gate_callee (f := 108) rfl ?_); refine goesL_ (some 28) rfl rfl Tryd.func108 (by kernel_rfl) rfl #[.int .u64 a0_1, .int .u64 (IntKind.u64.wrap (wrap64 (-t306)))] rfl za ?_; (with_reducible refine (polyglotref16_signed.calls a0_1 (IntKind.u64.wrap (wrap64 (-t306))) t308 _ A11.out).mono ?_); rintro e w' ⟨rfl, ⟨nd, rfl⟩⟩; refine ⟨_, rfl, ?_⟩))
     go_ret
     exact ⟨ze, zb⟩
    ·rw [if_neg c10] at H
     have c10b0 : decide (t306 < 0) = false := decide_eq_false c10
     clear c10
     by_cases c14 : t306 = 64
     ·rw [if_pos c14] at H
      have c14b0 : (t306 == 64) = true := beq_iff_eq.mpr c14
      have c14b1 : (t306 != 64) = false := bne_eq_false_iff_eq.mpr c14
      clear c14
      obtain rfl := Option.some.inj H
      go_enter Tryd.func104, Tryd.ntmps104
      go_wp2_with (first | ((with_reducible refine gate_dst (N := 1) rfl ?_); refine box_event rfl (N := 1) rfl (cs := #[.int .i64 a0_0, .int .u64 a0_1, .string a0_2, .slice A0_3 l0_3.length c0_3]) (t := 25) zh ?_; intro gb305 hg w15 hbox hb; have BK305 := Aside0.mk (hbox); have GW305 := Aside0.mk ((zge (w := w) hg)); have GE305 := Aside0.mk ((zge (w := w) hg)); replace HB := Aside0.mk (below_step zb hb); clear hb hbox hg; obtain ⟨hcz16_0, hcz16_1, hcz16_2, hcz16_3, hfz16_0, hfz16_1, hfz16_2, hfz16_3⟩ := cz4 BK305.out) | ((with_reducible refine gate_callee (f := 141) rfl ?_); refine goesL_ (some 6) rfl rfl Tryd.func141 (by kernel_rfl) rfl #[.int .i64 a0_0] rfl za ?_; (with_reducible refine (polyglotref16_bits.calls k a0_0 t306 _ A2.out).mono ?_); rintro e w' ⟨rfl, ⟨nd, rfl⟩⟩; refine ⟨_, rfl, ?_⟩))
      go_ret
      exact ⟨ze, zb⟩
     ·rw [if_neg c14] at H
      have c14b0 : (t306 == 64) = false := beq_eq_false_iff_ne.mpr c14
      have c14b1 : (t306 != 64) = true := bne_iff_ne.mpr c14
      obtain ⟨ji17, hji17⟩ : ∃ j_ : Int, (IntKind.u64.wrap (t306)) = j_ := ⟨_, rfl⟩
      replace H : (if 0 ≤ (ji17) then (some (decide (a0_1 < (shl .u64 1 (ji17))))) else (none)) = some r := by first | (rw [hji17] at H; exact H) | (simp only [hji17] at H ⊢; exact H)
      (try rw [hji17] at A2)
      by_cases c18 : 0 ≤ (ji17)
      ·rw [if_pos c18] at H
       have c18b0 := eq_true c18
       have c18b1 : decide (0 ≤ (ji17)) = true := decide_eq_true c18
       clear c18
       obtain ⟨ji19, hji19⟩ : ∃ j_ : Int, (shl .u64 1 (ji17)) = j_ := ⟨_, rfl⟩
       replace H : (some (decide (a0_1 < (ji19)))) = some r := by first | (rw [hji19] at H; exact H) | (simp only [hji19] at H ⊢; exact H)
       (try rw [hji19] at A2)
       have hji19_ : (IntKind.u64.wrap (1 * 2 ^ min (ji17).toNat 64)) = ji19 := hji19
       have hji19z : (ji17) ≤ 64 → (IntKind.u64.wrap (1 * 2 ^ (ji17).toNat)) = ji19 := shl_small hji19
       have hji19u : (IntKind.u64.wrap (2 ^ min (ji17).toNat 64)) = ji19 := by have h_ := hji19_; rw [Int.one_mul] at h_; exact h_
       have hji19v : (ji17) ≤ 64 → (IntKind.u64.wrap (2 ^ (ji17).toNat)) = ji19 := fun hle_ => by have h_ := hji19z hle_; rw [Int.one_mul] at h_; exact h_
       obtain rfl := Option.some.inj H
       go_enter Tryd.func104, Tryd.ntmps104
       go_wp2_with (first | ((with_reducible refine gate_dst (N := 1) rfl ?_); refine box_event rfl (N := 1) rfl (cs := #[.int .i64 a0_0, .int .u64 a0_1, .string a0_2, .slice A0_3 l0_3.length c0_3]) (t := 25) zh ?_; intro gb305 hg w20 hbox hb; have BK305 := Aside0.mk (hbox); have GW305 := Aside0.mk ((zge (w := w) hg)); have GE305 := Aside0.mk ((zge (w := w) hg)); replace HB := Aside0.mk (below_step zb hb); clear hb hbox hg; obtain ⟨hcz21_0, hcz21_1, hcz21_2, hcz21_3, hfz21_0, hfz21_1, hfz21_2, hfz21_3⟩ := cz4 BK305.out) | ((with_reducible refine gate_callee (f := 141) rfl ?_); refine goesL_ (some 6) rfl rfl Tryd.func141 (by kernel_rfl) rfl #[.int .i64 a0_0] rfl za ?_; (with_reducible refine (polyglotref16_bits.calls k a0_0 t306 _ A2.out).mono ?_); rintro e w' ⟨rfl, ⟨nd, rfl⟩⟩; refine ⟨_, rfl, ?_⟩))
       go_ret
       exact ⟨by first | rfl | (simp [errW_none, errW_some] <;> rfl) | (simp only [← hji17, ← hji19]; first | rfl | (simp [errW_none, errW_some] <;> rfl)) | (simp [*, errW_none, errW_some] <;> rfl), zb⟩
      ·rw [if_neg c18] at H
       exact absurd H (by simp)
set_option maxHeartbeats 8000000 in
set_option maxRecDepth 100000 in
theorem polyglotref16_texts.calls (a0 : Int) (r : Bool) (w : World) (h : polyglotref16_texts.f a0 = some r) :
    Calls Tryd.prog 105 #[.int .i64 a0] w fun e w' => e = .returned (.bool r) ∧ Drawn0 w w' := by
  have H : (if a0 = 15 then (some true) else (if a0 ≥ 18 then (some (decide (a0 ≤ 21))) else (some false))) = some r := h
  clear h
  by_cases c2 : a0 = 15
  ·rw [if_pos c2] at H
   have c2b0 : (a0 == 15) = true := beq_iff_eq.mpr c2
   have c2b1 : (a0 != 15) = false := bne_eq_false_iff_eq.mpr c2
   clear c2
   obtain rfl := Option.some.inj H
   go_enter Tryd.func105, Tryd.ntmps105
   go_wp2
   go_ret
   exact ⟨zt, zd⟩
  ·rw [if_neg c2] at H
   have c2b0 : (a0 == 15) = false := beq_eq_false_iff_ne.mpr c2
   have c2b1 : (a0 != 15) = true := bne_iff_ne.mpr c2
   by_cases c3 : a0 ≥ 18
   ·rw [if_pos c3] at H
    have c3b0 : decide (18 ≤ a0) = true := decide_eq_true c3
    clear c3
    obtain rfl := Option.some.inj H
    go_enter Tryd.func105, Tryd.ntmps105
    go_wp2
    go_ret
    exact ⟨zt, zd⟩
   ·rw [if_neg c3] at H
    have c3b0 : decide (18 ≤ a0) = false := decide_eq_false c3
    clear c3
    obtain rfl := Option.some.inj H
    go_enter Tryd.func105, Tryd.ntmps105
    go_wp2
    go_ret
    exact ⟨zt, zd⟩
set_option maxHeartbeats 8000000 in
set_option maxRecDepth 100000 in
theorem polyglotref16_after.calls (a0 : ByteArray) (a1 : Int) (a2 : Int) (a3 : Int) (r : Bool) (w : World) (h : polyglotref16_after.f a0 a1 a2 a3 = some r) :
    Calls Tryd.prog 165 #[.string a0, .int .i64 a1, .int .u8 a2, .int .u8 a3] w fun e w' => e = .returned (.bool r) ∧ Drawn0 w w' := by
  have H : (if a1 < (a0.size : Int) then (if 0 ≤ a1 then (if (bt a0 a1) ≥ a2 then (some (decide ((bt a0 a1) ≤ a3))) else (some false)) else (none)) else (some false)) = some r := h
  clear h
  by_cases c5 : a1 < (a0.size : Int)
  ·rw [if_pos c5] at H
   have c5b0 : decide (a1 < (a0.size : Int)) = true := decide_eq_true c5
   clear c5
   by_cases c6 : 0 ≤ a1
   ·rw [if_pos c6] at H
    have c6b0 : decide (0 ≤ a1) = true := decide_eq_true c6
    clear c6
    by_cases c8 : (bt a0 a1) ≥ a2
    ·rw [if_pos c8] at H
     have c8b0 : decide (a2 ≤ (bt a0 a1)) = true := decide_eq_true c8
     clear c8
     obtain rfl := Option.some.inj H
     have p7 : 0 ≤ (a1 : Int) := of_decide_eq_true (by first | (with_reducible assumption) | assumption)
     have q7 : a1 < (a0.size : Int) := of_decide_eq_true (by first | (with_reducible assumption) | assumption)
     have hx7 := bt_at a0 a1
     replace p7 := eq_true p7
     replace q7 := eq_true q7
     have p9 : 0 ≤ (a1 : Int) := of_decide_eq_true (by first | (with_reducible assumption) | assumption)
     have q9 : a1 < (a0.size : Int) := of_decide_eq_true (by first | (with_reducible assumption) | assumption)
     have hx9 := bt_at a0 a1
     replace p9 := eq_true p9
     replace q9 := eq_true q9
     go_enter Tryd.func165, Tryd.ntmps165
     go_wp2
     go_ret
     exact ⟨zt, zd⟩
    ·rw [if_neg c8] at H
     have c8b0 : decide (a2 ≤ (bt a0 a1)) = false := decide_eq_false c8
     clear c8
     obtain rfl := Option.some.inj H
     have p7 : 0 ≤ (a1 : Int) := of_decide_eq_true (by first | (with_reducible assumption) | assumption)
     have q7 : a1 < (a0.size : Int) := of_decide_eq_true (by first | (with_reducible assumption) | assumption)
     have hx7 := bt_at a0 a1
     replace p7 := eq_true p7
     replace q7 := eq_true q7
     go_enter Tryd.func165, Tryd.ntmps165
     go_wp2
     go_ret
     exact ⟨zt, zd⟩
   ·rw [if_neg c6] at H
    exact absurd H (by simp)
  ·rw [if_neg c5] at H
   have c5b0 : decide (a1 < (a0.size : Int)) = false := decide_eq_false c5
   clear c5
   obtain rfl := Option.some.inj H
   go_enter Tryd.func165, Tryd.ntmps165
   go_wp2
   go_ret
   exact ⟨zt, zd⟩
set_option maxHeartbeats 8000000 in
set_option maxRecDepth 100000 in
theorem polyglotref16_step.calls (k : Nat) (a0 : ByteArray) (a1 : Int) (r : Int) (w : World) (h : polyglotref16_step.f k a0 a1 = some r) :
    Calls Tryd.prog 143 #[.string a0, .int .i64 a1] w fun e w' => e = .returned (.int .i64 r) ∧ Drawn0 w w' := by
  have H : (if 0 ≤ a1 then (if a1 < (a0.size : Int) then (if (bt a0 a1) < 128 then (some 1) else (if (bt a0 a1) ≥ 194 then (if (bt a0 a1) ≤ 223 then ((polyglotref16_after.f a0 (wrap64 (a1 + 1)) 128 191).bind fun t309 => (polyglotref16_step.j0 k a0 a1 (bt a0 a1) t309)) else (polyglotref16_step.j0 k a0 a1 (bt a0 a1) false)) else (polyglotref16_step.j0 k a0 a1 (bt a0 a1) false))) else (none)) else (none)) = some r := h
  clear h
  by_cases c3 : 0 ≤ a1
  ·as_aux_lemma =>
   rw [if_pos c3] at H
   have c3b0 : decide (0 ≤ a1) = true := decide_eq_true c3
   clear c3
   by_cases c4 : a1 < (a0.size : Int)
   ·as_aux_lemma =>
    rw [if_pos c4] at H
    have c4b0 : decide (a1 < (a0.size : Int)) = true := decide_eq_true c4
    clear c4
    by_cases c6 : (bt a0 a1) < 128
    ·as_aux_lemma =>
     rw [if_pos c6] at H
     have c6b0 : decide ((bt a0 a1) < 128) = true := decide_eq_true c6
     clear c6
     obtain rfl := Option.some.inj H
     have p5 : 0 ≤ (a1 : Int) := of_decide_eq_true (by first | (with_reducible assumption) | assumption)
     have q5 : a1 < (a0.size : Int) := of_decide_eq_true (by first | (with_reducible assumption) | assumption)
     have hx5 := bt_at a0 a1
     replace p5 := eq_true p5
     replace q5 := eq_true q5
     go_enter Tryd.func143, Tryd.ntmps143
     go_wp2
     go_ret
     exact ⟨zt, zd⟩
    ·as_aux_lemma =>
     rw [if_neg c6] at H
     have c6b0 : decide ((bt a0 a1) < 128) = false := decide_eq_false c6
     clear c6
     have HC7 := Aside0.mk H
     clear H
     have p5 : 0 ≤ (a1 : Int) := of_decide_eq_true (by first | (with_reducible assumption) | assumption)
     have q5 : a1 < (a0.size : Int) := of_decide_eq_true (by first | (with_reducible assumption) | assumption)
     have hx5 := bt_at a0 a1
     replace p5 := eq_true p5
     replace q5 := eq_true q5
     go_enter Tryd.func143, Tryd.ntmps143
     go_upto_region 4 with (fail)
     go_cut [12] (fun v12 wc => ∃ (kq : Nat) (x12_6 : Bool), v12 = .bool x12_6 ∧ Aside0 (polyglotref16_step.j0 kq a0 a1 (bt a0 a1) x12_6 = some r) ∧ Aside0 (kq ≤ k) ∧ Drawn0 w wc)
     case first =>
      have H := HC7.out
      clear HC7
      by_cases c8 : (bt a0 a1) ≥ 194
      ·as_aux_lemma =>
       rw [if_pos c8] at H
       have c8b0 : decide (194 ≤ (bt a0 a1)) = true := decide_eq_true c8
       clear c8
       (first | rw [c8b0] | (simp only [i64_w, i32_w]; rw [c8b0]) | skip)
       by_cases c9 : (bt a0 a1) ≤ 223
       ·as_aux_lemma =>
        rw [if_pos c9] at H
        have c9b0 : decide ((bt a0 a1) ≤ 223) = true := decide_eq_true c9
        clear c9
        obtain ⟨t309, A10, H⟩ := zbd H
        have H' := Aside0.mk H
        clear H
        go_wp2_with (first | (go_at_call 165; (with_reducible refine (polyglotref16_after.calls a0 (wrap64 (a1 + 1)) 128 191 t309 _ A10.out).mono ?_); rintro e w' ⟨rfl, ⟨nd, rfl⟩⟩))
        go_meet
        case rel => exact ⟨_, (t309), zt, H', ⟨zo⟩, zd⟩
       ·as_aux_lemma =>
        rw [if_neg c9] at H
        have c9b0 : decide ((bt a0 a1) ≤ 223) = false := decide_eq_false c9
        clear c9
        have H' := Aside0.mk H
        clear H
        go_wp2
        go_meet
        case rel => exact ⟨_, (false), zt, H', ⟨zo⟩, zd⟩
      ·as_aux_lemma =>
       rw [if_neg c8] at H
       have c8b0 : decide (194 ≤ (bt a0 a1)) = false := decide_eq_false c8
       clear c8
       (first | rw [c8b0] | (simp only [i64_w, i32_w]; rw [c8b0]) | skip)
       have H' := Aside0.mk H
       clear H
       go_wp2
       go_meet
       case rel => exact ⟨_, (false), zt, H', ⟨zo⟩, zd⟩
     case rest =>
      clear HC7
      try clear c3
      try clear c3b0
      try clear c4
      try clear c4b0
      try clear p5
      try clear q5
      try clear hx5
      try clear c6
      try clear c6b0
      try clear p5
      try clear q5
      obtain ⟨kq, x12_6, rfl, HA, HJ6, ⟨mc6, rfl⟩⟩ := hcut
      cases kq with
      | zero => exact absurd HA.out (by simp [polyglotref16_step.j0])
      | succ kj6 =>
       have H := HA.out
       clear HA
       simp only [polyglotref16_step.j0] at H
       by_cases c11 : x12_6 = true
       ·subst c11
        replace H := zyes H
        obtain rfl := Option.some.inj H
        go_wp2
        go_ret
        exact ⟨zt, zd⟩
       ·replace c11 := Bool.eq_false_iff.mpr c11
        subst c11
        replace H := zno H
        have HC12 := Aside0.mk H
        clear H
        go_upto_region 6 with (fail)
        go_cut [25] (fun v25 wc => ∃ (kq : Nat) (x25_11 : Bool), v25 = .bool x25_11 ∧ Aside0 (polyglotref16_step.j1 kq a0 a1 (bt a0 a1) x25_11 = some r) ∧ Aside0 (kq ≤ kj6) ∧ Drawn0 w wc)
        case first =>
         have H := HC12.out
         clear HC12
         by_cases c13 : (bt a0 a1) = 224
         ·as_aux_lemma =>
          rw [if_pos c13] at H
          have c13b0 : ((bt a0 a1) == 224) = true := beq_iff_eq.mpr c13
          have c13b1 : ((bt a0 a1) != 224) = false := bne_eq_false_iff_eq.mpr c13
          clear c13
          (first | rw [c13b0] | (simp only [i64_w, i32_w]; rw [c13b0]) | skip)
          obtain ⟨t310, A14, H⟩ := zbd H
          by_cases c15 : t310 = true
          ·subst c15
           replace H := zyes H
           obtain ⟨t311, A16, H⟩ := zbd H
           have H' := Aside0.mk H
           clear H
           go_wp2_with (first | (go_at_call 165; (with_reducible refine (polyglotref16_after.calls a0 (wrap64 (a1 + 1)) 160 191 true _ A14.out).mono ?_); rintro e w' ⟨rfl, ⟨nd, rfl⟩⟩) | (go_at_call 165; (with_reducible refine (polyglotref16_after.calls a0 (wrap64 (a1 + 2)) 128 191 t311 _ A16.out).mono ?_); rintro e w' ⟨rfl, ⟨nd, rfl⟩⟩))
           go_meet
           case rel => exact ⟨_, (t311), zt, H', ⟨zoj HJ6.out⟩, zd⟩
          ·replace c15 := Bool.eq_false_iff.mpr c15
           subst c15
           replace H := zno H
           have H' := Aside0.mk H
           clear H
           go_wp2_with (first | (go_at_call 165; (with_reducible refine (polyglotref16_after.calls a0 (wrap64 (a1 + 1)) 160 191 false _ A14.out).mono ?_); rintro e w' ⟨rfl, ⟨nd, rfl⟩⟩))
           go_meet
           case rel => exact ⟨_, (false), zt, H', ⟨zoj HJ6.out⟩, zd⟩
         ·as_aux_lemma =>
          rw [if_neg c13] at H
          have c13b0 : ((bt a0 a1) == 224) = false := beq_eq_false_iff_ne.mpr c13
          have c13b1 : ((bt a0 a1) != 224) = true := bne_iff_ne.mpr c13
          (first | rw [c13b0] | (simp only [i64_w, i32_w]; rw [c13b0]) | skip)
          have H' := Aside0.mk H
          clear H
          go_wp2
          go_meet
          case rel => exact ⟨_, (false), zt, H', ⟨zoj HJ6.out⟩, zd⟩
        case rest =>
         clear HC12
         try clear c3
         try clear c3b0
         try clear c4
         try clear c4b0
         try clear p5
         try clear q5
         try clear hx5
         try clear c6
         try clear c6b0
         try clear c11
         try clear p5
         try clear q5
         obtain ⟨kq, x25_11, rfl, HA, HJ11, ⟨mc11, rfl⟩⟩ := hcut
         cases kq with
         | zero => exact absurd HA.out (by simp [polyglotref16_step.j1])
         | succ kj11 =>
          have H := HA.out
          clear HA
          simp only [polyglotref16_step.j1] at H
          have HC17 := Aside0.mk H
          clear H
          go_upto_if 25 with (fail)
          go_cut [25] (fun v25 wc => ∃ (kq : Nat) (x25_16 : Bool), v25 = .bool x25_16 ∧ Aside0 (polyglotref16_step.j3 kq a0 a1 (bt a0 a1) x25_16 = some r) ∧ Aside0 (kq ≤ kj11) ∧ Drawn0 w wc)
          case first =>
           have H := HC17.out
           clear HC17
           by_cases c18 : x25_11 = true
           ·subst c18
            replace H := zyes H
            have H' := Aside0.mk H
            clear H
            go_wp2
            go_meet
            case rel => exact ⟨_, (true), zt, H', ⟨by have := HJ6.out; have := HJ11.out; first | omega | exact Nat.le_refl _⟩, zd⟩
           ·replace c18 := Bool.eq_false_iff.mpr c18
            subst c18
            replace H := zno H
            have HC19 := Aside0.mk H
            clear H
            go_upto_region 7 with (fail)
            go_cut [25] (fun v25 wc => ∃ (kq : Nat) (x25_18 : Bool), v25 = .bool x25_18 ∧ Aside0 (polyglotref16_step.j2 kq a0 a1 (bt a0 a1) x25_18 = some r) ∧ Aside0 (kq ≤ kj11) ∧ Drawn0 w wc)
            case first =>
             have H := HC19.out
             clear HC19
             by_cases c20 : (bt a0 a1) = 237
             ·as_aux_lemma =>
              rw [if_pos c20] at H
              have c20b0 : ((bt a0 a1) == 237) = true := beq_iff_eq.mpr c20
              have c20b1 : ((bt a0 a1) != 237) = false := bne_eq_false_iff_eq.mpr c20
              clear c20
              (first | rw [c20b0] | (simp only [i64_w, i32_w]; rw [c20b0]) | skip)
              obtain ⟨t312, A21, H⟩ := zbd H
              by_cases c22 : t312 = true
              ·subst c22
               replace H := zyes H
               obtain ⟨t313, A23, H⟩ := zbd H
               have H' := Aside0.mk H
               clear H
               go_wp2_with (first | (go_at_call 165; (with_reducible refine (polyglotref16_after.calls a0 (wrap64 (a1 + 1)) 128 159 true _ A21.out).mono ?_); rintro e w' ⟨rfl, ⟨nd, rfl⟩⟩) | (go_at_call 165; (with_reducible refine (polyglotref16_after.calls a0 (wrap64 (a1 + 2)) 128 191 t313 _ A23.out).mono ?_); rintro e w' ⟨rfl, ⟨nd, rfl⟩⟩))
               go_meet
               case rel => exact ⟨_, (t313), zt, H', ⟨by have := HJ6.out; have := HJ11.out; first | omega | exact Nat.le_refl _⟩, zd⟩
              ·replace c22 := Bool.eq_false_iff.mpr c22
               subst c22
               replace H := zno H
               have H' := Aside0.mk H
               clear H
               go_wp2_with (first | (go_at_call 165; (with_reducible refine (polyglotref16_after.calls a0 (wrap64 (a1 + 1)) 128 159 false _ A21.out).mono ?_); rintro e w' ⟨rfl, ⟨nd, rfl⟩⟩))
               go_meet
               case rel => exact ⟨_, (false), zt, H', ⟨by have := HJ6.out; have := HJ11.out; first | omega | exact Nat.le_refl _⟩, zd⟩
             ·as_aux_lemma =>
              rw [if_neg c20] at H
              have c20b0 : ((bt a0 a1) == 237) = false := beq_eq_false_iff_ne.mpr c20
              have c20b1 : ((bt a0 a1) != 237) = true := bne_iff_ne.mpr c20
              (first | rw [c20b0] | (simp only [i64_w, i32_w]; rw [c20b0]) | skip)
              have H' := Aside0.mk H
              clear H
              go_wp2
              go_meet
              case rel => exact ⟨_, (false), zt, H', ⟨by have := HJ6.out; have := HJ11.out; first | omega | exact Nat.le_refl _⟩, zd⟩
            case rest =>
             clear HC19
             try clear c3
             try clear c3b0
             try clear c4
             try clear c4b0
             try clear p5
             try clear q5
             try clear hx5
             try clear c6
             try clear c6b0
             try clear c11
             try clear c18
             try clear p5
             try clear q5
             obtain ⟨kq, x25_18, rfl, HA, HJ18, ⟨mc18, rfl⟩⟩ := hcut
             cases kq with
             | zero => exact absurd HA.out (by simp [polyglotref16_step.j2])
             | succ kj18 =>
              have H := HA.out
              clear HA
              simp only [polyglotref16_step.j2] at H
              by_cases c24 : x25_18 = true
              ·subst c24
               replace H := zyes H
               have H' := Aside0.mk H
               clear H
               go_wp2
               go_meet
               case rel => exact ⟨_, (true), zt, H', ⟨by have := HJ6.out; have := HJ11.out; have := HJ18.out; first | omega | exact Nat.le_refl _⟩, zd⟩
              ·replace c24 := Bool.eq_false_iff.mpr c24
               subst c24
               replace H := zno H
               by_cases c25 : (bt a0 a1) ≥ 225
               ·as_aux_lemma =>
                rw [if_pos c25] at H
                have c25b0 : decide (225 ≤ (bt a0 a1)) = true := decide_eq_true c25
                clear c25
                by_cases c26 : (bt a0 a1) ≤ 239
                ·as_aux_lemma =>
                 rw [if_pos c26] at H
                 have c26b0 : decide ((bt a0 a1) ≤ 239) = true := decide_eq_true c26
                 clear c26
                 by_cases c27 : (bt a0 a1) = 237
                 ·as_aux_lemma =>
                  rw [if_pos c27] at H
                  have c27b0 : ((bt a0 a1) == 237) = true := beq_iff_eq.mpr c27
                  have c27b1 : ((bt a0 a1) != 237) = false := bne_eq_false_iff_eq.mpr c27
                  clear c27
                  have H' := Aside0.mk H
                  clear H
                  go_wp2
                  go_meet
                  case rel => exact ⟨_, (false), zt, H', ⟨by have := HJ6.out; have := HJ11.out; have := HJ18.out; first | omega | exact Nat.le_refl _⟩, zd⟩
                 ·as_aux_lemma =>
                  rw [if_neg c27] at H
                  have c27b0 : ((bt a0 a1) == 237) = false := beq_eq_false_iff_ne.mpr c27
                  have c27b1 : ((bt a0 a1) != 237) = true := bne_iff_ne.mpr c27
                  obtain ⟨t314, A28, H⟩ := zbd H
                  by_cases c29 : t314 = true
                  ·subst c29
                   replace H := zyes H
                   obtain ⟨t315, A30, H⟩ := zbd H
                   have H' := Aside0.mk H
                   clear H
                   go_wp2_with (first | (go_at_call 165; (with_reducible refine (polyglotref16_after.calls a0 (wrap64 (a1 + 1)) 128 191 true _ A28.out).mono ?_); rintro e w' ⟨rfl, ⟨nd, rfl⟩⟩) | (go_at_call 165; (with_reducible refine (polyglotref16_after.calls a0 (wrap64 (a1 + 2)) 128 191 t315 _ A30.out).mono ?_); rintro e w' ⟨rfl, ⟨nd, rfl⟩⟩))
                   go_meet
                   case rel => exact ⟨_, (t315), zt, H', ⟨by have := HJ6.out; have := HJ11.out; have := HJ18.out; first | omega | exact Nat.le_refl _⟩, zd⟩
                  ·replace c29 := Bool.eq_false_iff.mpr c29
                   subst c29
                   replace H := zno H
                   have H' := Aside0.mk H
                   clear H
                   go_wp2_with (first | (go_at_call 165; (with_reducible refine (polyglotref16_after.calls a0 (wrap64 (a1 + 1)) 128 191 false _ A28.out).mono ?_); rintro e w' ⟨rfl, ⟨nd, rfl⟩⟩))
                   go_meet
                   case rel => exact ⟨_, (false), zt, H', ⟨by have := HJ6.out; have := HJ11.out; have := HJ18.out; first | omega | exact Nat.le_refl _⟩, zd⟩
                ·as_aux_lemma =>
                 rw [if_neg c26] at H
                 have c26b0 : decide ((bt a0 a1) ≤ 239) = false := decide_eq_false c26
                 clear c26
                 have H' := Aside0.mk H
                 clear H
                 go_wp2
                 go_meet
                 case rel => exact ⟨_, (false), zt, H', ⟨by have := HJ6.out; have := HJ11.out; have := HJ18.out; first | omega | exact Nat.le_refl _⟩, zd⟩
               ·as_aux_lemma =>
                rw [if_neg c25] at H
                have c25b0 : decide (225 ≤ (bt a0 a1)) = false := decide_eq_false c25
                clear c25
                have H' := Aside0.mk H
                clear H
                go_wp2
                go_meet
                case rel => exact ⟨_, (false), zt, H', ⟨by have := HJ6.out; have := HJ11.out; have := HJ18.out; first | omega | exact Nat.le_refl _⟩, zd⟩
          case rest =>
           clear HC17
           try clear c3
           try clear c3b0
           try clear c4
           try clear c4b0
           try clear p5
           try clear q5
           try clear hx5
           try clear c6
           try clear c6b0
           try clear c11
           try clear p5
           try clear q5
           obtain ⟨kq, x25_16, rfl, HA, HJ16, ⟨mc16, rfl⟩⟩ := hcut
           cases kq with
           | zero => exact absurd HA.out (by simp [polyglotref16_step.j3])
           | succ kj16 =>
            have H := HA.out
            clear HA
            simp only [polyglotref16_step.j3] at H
            by_cases c31 : x25_16 = true
            ·subst c31
             replace H := zyes H
             obtain rfl := Option.some.inj H
             go_wp2
             go_ret
             exact ⟨zt, zd⟩
            ·replace c31 := Bool.eq_false_iff.mpr c31
             subst c31
             replace H := zno H
             have HC32 := Aside0.mk H
             clear H
             go_upto_region 10 with (fail)
             go_cut [76] (fun v76 wc => ∃ (kq : Nat) (x76_31 : Bool), v76 = .bool x76_31 ∧ Aside0 (polyglotref16_step.j4 kq a0 a1 (bt a0 a1) x76_31 = some r) ∧ Aside0 (kq ≤ kj16) ∧ Drawn0 w wc)
             case first =>
              have H := HC32.out
              clear HC32
              by_cases c33 : (bt a0 a1) = 240
              ·as_aux_lemma =>
               rw [if_pos c33] at H
               have c33b0 : ((bt a0 a1) == 240) = true := beq_iff_eq.mpr c33
               have c33b1 : ((bt a0 a1) != 240) = false := bne_eq_false_iff_eq.mpr c33
               clear c33
               (first | rw [c33b0] | (simp only [i64_w, i32_w]; rw [c33b0]) | skip)
               obtain ⟨t316, A34, H⟩ := zbd H
               by_cases c35 : t316 = true
               ·subst c35
                replace H := zyes H
                obtain ⟨t317, A36, H⟩ := zbd H
                by_cases c37 : t317 = true
                ·subst c37
                 replace H := zyes H
                 obtain ⟨t318, A38, H⟩ := zbd H
                 have H' := Aside0.mk H
                 clear H
                 go_wp2_with (first | (go_at_call 165; (with_reducible refine (polyglotref16_after.calls a0 (wrap64 (a1 + 1)) 144 191 true _ A34.out).mono ?_); rintro e w' ⟨rfl, ⟨nd, rfl⟩⟩) | (go_at_call 165; (with_reducible refine (polyglotref16_after.calls a0 (wrap64 (a1 + 2)) 128 191 true _ A36.out).mono ?_); rintro e w' ⟨rfl, ⟨nd, rfl⟩⟩) | (go_at_call 165; (with_reducible refine (polyglotref16_after.calls a0 (wrap64 (a1 + 3)) 128 191 t318 _ A38.out).mono ?_); rintro e w' ⟨rfl, ⟨nd, rfl⟩⟩))
                 go_meet
                 case rel => exact ⟨_, (t318), zt, H', ⟨by have := HJ6.out; have := HJ11.out; have := HJ16.out; first | omega | exact Nat.le_refl _⟩, zd⟩
                ·replace c37 := Bool.eq_false_iff.mpr c37
                 subst c37
                 replace H := zno H
                 have H' := Aside0.mk H
                 clear H
                 go_wp2_with (first | (go_at_call 165; (with_reducible refine (polyglotref16_after.calls a0 (wrap64 (a1 + 1)) 144 191 true _ A34.out).mono ?_); rintro e w' ⟨rfl, ⟨nd, rfl⟩⟩) | (go_at_call 165; (with_reducible refine (polyglotref16_after.calls a0 (wrap64 (a1 + 2)) 128 191 false _ A36.out).mono ?_); rintro e w' ⟨rfl, ⟨nd, rfl⟩⟩))
                 go_meet
                 case rel => exact ⟨_, (false), zt, H', ⟨by have := HJ6.out; have := HJ11.out; have := HJ16.out; first | omega | exact Nat.le_refl _⟩, zd⟩
               ·replace c35 := Bool.eq_false_iff.mpr c35
                subst c35
                replace H := zno H
                have H' := Aside0.mk H
                clear H
                go_wp2_with (first | (go_at_call 165; (with_reducible refine (polyglotref16_after.calls a0 (wrap64 (a1 + 1)) 144 191 false _ A34.out).mono ?_); rintro e w' ⟨rfl, ⟨nd, rfl⟩⟩))
                go_meet
                case rel => exact ⟨_, (false), zt, H', ⟨by have := HJ6.out; have := HJ11.out; have := HJ16.out; first | omega | exact Nat.le_refl _⟩, zd⟩
              ·as_aux_lemma =>
               rw [if_neg c33] at H
               have c33b0 : ((bt a0 a1) == 240) = false := beq_eq_false_iff_ne.mpr c33
               have c33b1 : ((bt a0 a1) != 240) = true := bne_iff_ne.mpr c33
               (first | rw [c33b0] | (simp only [i64_w, i32_w]; rw [c33b0]) | skip)
               have H' := Aside0.mk H
               clear H
               go_wp2
               go_meet
               case rel => exact ⟨_, (false), zt, H', ⟨by have := HJ6.out; have := HJ11.out; have := HJ16.out; first | omega | exact Nat.le_refl _⟩, zd⟩
             case rest =>
              clear HC32
              try clear c3
              try clear c3b0
              try clear c4
              try clear c4b0
              try clear p5
              try clear q5
              try clear hx5
              try clear c6
              try clear c6b0
              try clear c11
              try clear c31
              try clear p5
              try clear q5
              obtain ⟨kq, x76_31, rfl, HA, HJ31, ⟨mc31, rfl⟩⟩ := hcut
              cases kq with
              | zero => exact absurd HA.out (by simp [polyglotref16_step.j4])
              | succ kj31 =>
               have H := HA.out
               clear HA
               simp only [polyglotref16_step.j4] at H
               by_cases c39 : x76_31 = true
               ·subst c39
                replace H := zyes H
                obtain rfl := Option.some.inj H
                go_wp2
                go_ret
                exact ⟨zt, zd⟩
               ·replace c39 := Bool.eq_false_iff.mpr c39
                subst c39
                replace H := zno H
                have HC40 := Aside0.mk H
                clear H
                go_upto_region 11 with (fail)
                go_cut [76] (fun v76 wc => ∃ (kq : Nat) (x76_39 : Bool), v76 = .bool x76_39 ∧ Aside0 (polyglotref16_step.j5 kq a0 a1 (bt a0 a1) x76_39 = some r) ∧ Aside0 (kq ≤ kj31) ∧ Drawn0 w wc)
                case first =>
                 have H := HC40.out
                 clear HC40
                 by_cases c41 : (bt a0 a1) ≥ 241
                 ·as_aux_lemma =>
                  rw [if_pos c41] at H
                  have c41b0 : decide (241 ≤ (bt a0 a1)) = true := decide_eq_true c41
                  clear c41
                  (first | rw [c41b0] | (simp only [i64_w, i32_w]; rw [c41b0]) | skip)
                  by_cases c42 : (bt a0 a1) ≤ 243
                  ·as_aux_lemma =>
                   rw [if_pos c42] at H
                   have c42b0 : decide ((bt a0 a1) ≤ 243) = true := decide_eq_true c42
                   clear c42
                   obtain ⟨t319, A43, H⟩ := zbd H
                   by_cases c44 : t319 = true
                   ·subst c44
                    replace H := zyes H
                    obtain ⟨t320, A45, H⟩ := zbd H
                    by_cases c46 : t320 = true
                    ·subst c46
                     replace H := zyes H
                     obtain ⟨t321, A47, H⟩ := zbd H
                     have H' := Aside0.mk H
                     clear H
                     go_wp2_with (first | (go_at_call 165; (with_reducible refine (polyglotref16_after.calls a0 (wrap64 (a1 + 1)) 128 191 true _ A43.out).mono ?_); rintro e w' ⟨rfl, ⟨nd, rfl⟩⟩) | (go_at_call 165; (with_reducible refine (polyglotref16_after.calls a0 (wrap64 (a1 + 2)) 128 191 true _ A45.out).mono ?_); rintro e w' ⟨rfl, ⟨nd, rfl⟩⟩) | (go_at_call 165; (with_reducible refine (polyglotref16_after.calls a0 (wrap64 (a1 + 3)) 128 191 t321 _ A47.out).mono ?_); rintro e w' ⟨rfl, ⟨nd, rfl⟩⟩))
                     go_meet
                     case rel => exact ⟨_, (t321), zt, H', ⟨by have := HJ6.out; have := HJ11.out; have := HJ16.out; have := HJ31.out; first | omega | exact Nat.le_refl _⟩, zd⟩
                    ·replace c46 := Bool.eq_false_iff.mpr c46
                     subst c46
                     replace H := zno H
                     have H' := Aside0.mk H
                     clear H
                     go_wp2_with (first | (go_at_call 165; (with_reducible refine (polyglotref16_after.calls a0 (wrap64 (a1 + 1)) 128 191 true _ A43.out).mono ?_); rintro e w' ⟨rfl, ⟨nd, rfl⟩⟩) | (go_at_call 165; (with_reducible refine (polyglotref16_after.calls a0 (wrap64 (a1 + 2)) 128 191 false _ A45.out).mono ?_); rintro e w' ⟨rfl, ⟨nd, rfl⟩⟩))
                     go_meet
                     case rel => exact ⟨_, (false), zt, H', ⟨by have := HJ6.out; have := HJ11.out; have := HJ16.out; have := HJ31.out; first | omega | exact Nat.le_refl _⟩, zd⟩
                   ·replace c44 := Bool.eq_false_iff.mpr c44
                    subst c44
                    replace H := zno H
                    have H' := Aside0.mk H
                    clear H
                    go_wp2_with (first | (go_at_call 165; (with_reducible refine (polyglotref16_after.calls a0 (wrap64 (a1 + 1)) 128 191 false _ A43.out).mono ?_); rintro e w' ⟨rfl, ⟨nd, rfl⟩⟩))
                    go_meet
                    case rel => exact ⟨_, (false), zt, H', ⟨by have := HJ6.out; have := HJ11.out; have := HJ16.out; have := HJ31.out; first | omega | exact Nat.le_refl _⟩, zd⟩
                  ·as_aux_lemma =>
                   rw [if_neg c42] at H
                   have c42b0 : decide ((bt a0 a1) ≤ 243) = false := decide_eq_false c42
                   clear c42
                   have H' := Aside0.mk H
                   clear H
                   go_wp2
                   go_meet
                   case rel => exact ⟨_, (false), zt, H', ⟨by have := HJ6.out; have := HJ11.out; have := HJ16.out; have := HJ31.out; first | omega | exact Nat.le_refl _⟩, zd⟩
                 ·as_aux_lemma =>
                  rw [if_neg c41] at H
                  have c41b0 : decide (241 ≤ (bt a0 a1)) = false := decide_eq_false c41
                  clear c41
                  (first | rw [c41b0] | (simp only [i64_w, i32_w]; rw [c41b0]) | skip)
                  have H' := Aside0.mk H
                  clear H
                  go_wp2
                  go_meet
                  case rel => exact ⟨_, (false), zt, H', ⟨by have := HJ6.out; have := HJ11.out; have := HJ16.out; have := HJ31.out; first | omega | exact Nat.le_refl _⟩, zd⟩
                case rest =>
                 clear HC40
                 try clear c3
                 try clear c3b0
                 try clear c4
                 try clear c4b0
                 try clear p5
                 try clear q5
                 try clear hx5
                 try clear c6
                 try clear c6b0
                 try clear c11
                 try clear c31
                 try clear c39
                 try clear p5
                 try clear q5
                 obtain ⟨kq, x76_39, rfl, HA, HJ39, ⟨mc39, rfl⟩⟩ := hcut
                 cases kq with
                 | zero => exact absurd HA.out (by simp [polyglotref16_step.j5])
                 | succ kj39 =>
                  have H := HA.out
                  clear HA
                  simp only [polyglotref16_step.j5] at H
                  by_cases c48 : x76_39 = true
                  ·subst c48
                   replace H := zyes H
                   obtain rfl := Option.some.inj H
                   go_wp2
                   go_ret
                   exact ⟨zt, zd⟩
                  ·replace c48 := Bool.eq_false_iff.mpr c48
                   subst c48
                   replace H := zno H
                   by_cases c49 : (bt a0 a1) = 244
                   ·as_aux_lemma =>
                    rw [if_pos c49] at H
                    have c49b0 : ((bt a0 a1) == 244) = true := beq_iff_eq.mpr c49
                    have c49b1 : ((bt a0 a1) != 244) = false := bne_eq_false_iff_eq.mpr c49
                    clear c49
                    obtain ⟨t322, A50, H⟩ := zbd H
                    by_cases c51 : t322 = true
                    ·subst c51
                     replace H := zyes H
                     obtain ⟨t323, A52, H⟩ := zbd H
                     by_cases c53 : t323 = true
                     ·subst c53
                      replace H := zyes H
                      obtain ⟨t324, A54, H⟩ := zbd H
                      by_cases c55 : t324 = true
                      ·subst c55
                       replace H := zyes H
                       obtain rfl := Option.some.inj H
                       go_wp2_with (first | (go_at_call 165; (with_reducible refine (polyglotref16_after.calls a0 (wrap64 (a1 + 1)) 128 143 true _ A50.out).mono ?_); rintro e w' ⟨rfl, ⟨nd, rfl⟩⟩) | (go_at_call 165; (with_reducible refine (polyglotref16_after.calls a0 (wrap64 (a1 + 2)) 128 191 true _ A52.out).mono ?_); rintro e w' ⟨rfl, ⟨nd, rfl⟩⟩) | (go_at_call 165; (with_reducible refine (polyglotref16_after.calls a0 (wrap64 (a1 + 3)) 128 191 true _ A54.out).mono ?_); rintro e w' ⟨rfl, ⟨nd, rfl⟩⟩))
                       go_ret
                       exact ⟨zt, zd⟩
                      ·replace c55 := Bool.eq_false_iff.mpr c55
                       subst c55
                       replace H := zno H
                       obtain rfl := Option.some.inj H
                       go_wp2_with (first | (go_at_call 165; (with_reducible refine (polyglotref16_after.calls a0 (wrap64 (a1 + 1)) 128 143 true _ A50.out).mono ?_); rintro e w' ⟨rfl, ⟨nd, rfl⟩⟩) | (go_at_call 165; (with_reducible refine (polyglotref16_after.calls a0 (wrap64 (a1 + 2)) 128 191 true _ A52.out).mono ?_); rintro e w' ⟨rfl, ⟨nd, rfl⟩⟩) | (go_at_call 165; (with_reducible refine (polyglotref16_after.calls a0 (wrap64 (a1 + 3)) 128 191 false _ A54.out).mono ?_); rintro e w' ⟨rfl, ⟨nd, rfl⟩⟩))
                       go_ret
                       exact ⟨zt, zd⟩
                     ·replace c53 := Bool.eq_false_iff.mpr c53
                      subst c53
                      replace H := zno H
                      obtain rfl := Option.some.inj H
                      go_wp2_with (first | (go_at_call 165; (with_reducible refine (polyglotref16_after.calls a0 (wrap64 (a1 + 1)) 128 143 true _ A50.out).mono ?_); rintro e w' ⟨rfl, ⟨nd, rfl⟩⟩) | (go_at_call 165; (with_reducible refine (polyglotref16_after.calls a0 (wrap64 (a1 + 2)) 128 191 false _ A52.out).mono ?_); rintro e w' ⟨rfl, ⟨nd, rfl⟩⟩))
                      go_ret
                      exact ⟨zt, zd⟩
                    ·replace c51 := Bool.eq_false_iff.mpr c51
                     subst c51
                     replace H := zno H
                     obtain rfl := Option.some.inj H
                     go_wp2_with (first | (go_at_call 165; (with_reducible refine (polyglotref16_after.calls a0 (wrap64 (a1 + 1)) 128 143 false _ A50.out).mono ?_); rintro e w' ⟨rfl, ⟨nd, rfl⟩⟩))
                     go_ret
                     exact ⟨zt, zd⟩
                   ·as_aux_lemma =>
                    rw [if_neg c49] at H
                    have c49b0 : ((bt a0 a1) == 244) = false := beq_eq_false_iff_ne.mpr c49
                    have c49b1 : ((bt a0 a1) != 244) = true := bne_iff_ne.mpr c49
                    obtain rfl := Option.some.inj H
                    go_wp2
                    go_ret
                    exact ⟨zt, zd⟩
   ·as_aux_lemma =>
    rw [if_neg c4] at H
    exact absurd H (by simp)
  ·as_aux_lemma =>
   rw [if_neg c3] at H
   exact absurd H (by simp)
set_option maxHeartbeats 8000000 in
set_option maxRecDepth 100000 in
theorem polyglotref16_utf8.calls (k : Nat) (a0 : ByteArray) (r : Bool) (w : World) (h : polyglotref16_utf8.f k a0 = some r) :
    Calls Tryd.prog 106 #[.string a0] w fun e w' => e = .returned (.bool r) ∧ Drawn0 w w' := by
  have H : (polyglotref16_utf8.l0 k a0 0) = some r := h
  clear h
  have H' := Aside0.mk H
  clear H
  go_enter Tryd.func106, Tryd.ntmps106
  go_wp2
  go_loopg [3] k (fun kq v3 w' => ∃ (x3_1 : Int), v3 = .int .i64 x3_1 ∧ Aside0 (polyglotref16_utf8.l0 kq a0 x3_1 = some r) ∧ Aside0 (kq ≤ k) ∧ Drawn0 w w')
  case atStart => exact ⟨(0), zt, H', ⟨Nat.le_refl _⟩, zd⟩
  case round =>
   clear H'
   obtain ⟨x3_1, rfl, HA, HK1, ⟨m1, rfl⟩⟩ := hrel
   cases gk with
   | zero => exact absurd HA.out (by simp [polyglotref16_utf8.l0])
   | succ k1 =>
    have H := HA.out
    clear HA
    simp only [polyglotref16_utf8.l0] at H
    by_cases c2 : x3_1 < (a0.size : Int)
    ·rw [if_pos c2] at H
     have c2b0 : decide (x3_1 < (a0.size : Int)) = true := decide_eq_true c2
     clear c2
     obtain ⟨t325, A3, H⟩ := zbd H
     by_cases c4 : t325 = 0
     ·rw [if_pos c4] at H
      have c4b0 : (t325 == 0) = true := beq_iff_eq.mpr c4
      have c4b1 : (t325 != 0) = false := bne_eq_false_iff_eq.mpr c4
      clear c4
      obtain rfl := Option.some.inj H
      go_wp2_with (first | ((with_reducible refine gate_callee (f := 143) rfl ?_); refine goesL_ (some 11) rfl rfl Tryd.func143 (by kernel_rfl) rfl #[.string a0, .int .i64 x3_1] rfl za ?_; (with_reducible refine (polyglotref16_step.calls k1 a0 x3_1 t325 _ A3.out).mono ?_); rintro e w' ⟨rfl, ⟨nd, rfl⟩⟩; refine ⟨_, rfl, ?_⟩))
      go_ret
      exact ⟨zt, zd⟩
     ·rw [if_neg c4] at H
      have c4b0 : (t325 == 0) = false := beq_eq_false_iff_ne.mpr c4
      have c4b1 : (t325 != 0) = true := bne_iff_ne.mpr c4
      have H' := Aside0.mk H
      clear H
      go_wp2_with (first | ((with_reducible refine gate_callee (f := 143) rfl ?_); refine goesL_ (some 11) rfl rfl Tryd.func143 (by kernel_rfl) rfl #[.string a0, .int .i64 x3_1] rfl za ?_; (with_reducible refine (polyglotref16_step.calls k1 a0 x3_1 t325 _ A3.out).mono ?_); rintro e w' ⟨rfl, ⟨nd, rfl⟩⟩; refine ⟨_, rfl, ?_⟩))
      go_roundg k1
      case measure => have := HK1.out; omega
      case rel => exact ⟨(wrap64 (x3_1 + t325)), zt, H', ⟨by have := HK1.out; omega⟩, zd⟩
    ·rw [if_neg c2] at H
     have c2b0 : decide (x3_1 < (a0.size : Int)) = false := decide_eq_false c2
     clear c2
     obtain rfl := Option.some.inj H
     go_wp2
     go_ret
     exact ⟨zt, zd⟩
set_option maxHeartbeats 8000000 in
set_option maxRecDepth 100000 in
theorem polyglotref16_ascii.calls (k : Nat) (a0 : ByteArray) (r : Bool) (w : World) (h : polyglotref16_ascii.f k a0 = some r) :
    Calls Tryd.prog 107 #[.string a0] w fun e w' => e = .returned (.bool r) ∧ Drawn0 w w' := by
  have H : (polyglotref16_ascii.l0 k a0 0) = some r := h
  clear h
  have H' := Aside0.mk H
  clear H
  go_enter Tryd.func107, Tryd.ntmps107
  go_wp2
  go_loopg [3] k (fun kq v3 w' => ∃ (x3_1 : Int), v3 = .int .i64 x3_1 ∧ Aside0 (polyglotref16_ascii.l0 kq a0 x3_1 = some r) ∧ Aside0 (kq ≤ k) ∧ Drawn0 w w')
  case atStart => exact ⟨(0), zt, H', ⟨Nat.le_refl _⟩, zd⟩
  case round =>
   clear H'
   obtain ⟨x3_1, rfl, HA, HK1, ⟨m1, rfl⟩⟩ := hrel
   cases gk with
   | zero => exact absurd HA.out (by simp [polyglotref16_ascii.l0])
   | succ k1 =>
    have H := HA.out
    clear HA
    simp only [polyglotref16_ascii.l0] at H
    by_cases c2 : x3_1 < (a0.size : Int)
    ·rw [if_pos c2] at H
     have c2b0 : decide (x3_1 < (a0.size : Int)) = true := decide_eq_true c2
     clear c2
     by_cases c3 : 0 ≤ x3_1
     ·rw [if_pos c3] at H
      have c3b0 : decide (0 ≤ x3_1) = true := decide_eq_true c3
      clear c3
      by_cases c5 : (bt a0 x3_1) ≥ 128
      ·rw [if_pos c5] at H
       have c5b0 : decide (128 ≤ (bt a0 x3_1)) = true := decide_eq_true c5
       clear c5
       obtain rfl := Option.some.inj H
       have p4 : 0 ≤ (x3_1 : Int) := of_decide_eq_true (by first | (with_reducible assumption) | assumption)
       have q4 : x3_1 < (a0.size : Int) := of_decide_eq_true (by first | (with_reducible assumption) | assumption)
       have hx4 := bt_at a0 x3_1
       replace p4 := eq_true p4
       replace q4 := eq_true q4
       go_wp2
       go_ret
       exact ⟨zt, zd⟩
      ·rw [if_neg c5] at H
       have c5b0 : decide (128 ≤ (bt a0 x3_1)) = false := decide_eq_false c5
       clear c5
       have H' := Aside0.mk H
       clear H
       have p4 : 0 ≤ (x3_1 : Int) := of_decide_eq_true (by first | (with_reducible assumption) | assumption)
       have q4 : x3_1 < (a0.size : Int) := of_decide_eq_true (by first | (with_reducible assumption) | assumption)
       have hx4 := bt_at a0 x3_1
       replace p4 := eq_true p4
       replace q4 := eq_true q4
       go_wp2
       go_roundg k1
       case measure => have := HK1.out; omega
       case rel => exact ⟨(wrap64 (x3_1 + 1)), zt, H', ⟨by have := HK1.out; omega⟩, zd⟩
     ·rw [if_neg c3] at H
      exact absurd H (by simp)
    ·rw [if_neg c2] at H
     have c2b0 : decide (x3_1 < (a0.size : Int)) = false := decide_eq_false c2
     clear c2
     obtain rfl := Option.some.inj H
     go_wp2
     go_ret
     exact ⟨zt, zd⟩
set_option maxHeartbeats 8000000 in
set_option maxRecDepth 100000 in
theorem polyglotref16_Check.calls (k : Nat) (a0_0 : Int) (a0_1 : Int) (a0_2 : ByteArray) (A0_3 : Option Addr) (c0_3 : Nat) (l0_3 : List (Vl)) (r : Int) (w : World) (hr0_3 : Kd.C kV w A0_3 l0_3.length l0_3) (hc0_3 : l0_3.length ≤ c0_3) (h : polyglotref16_Check.f k a0_0 a0_1 a0_2 l0_3 = some r) :
    Calls Tryd.prog 47 #[.agg #[.int .i64 a0_0, .int .u64 a0_1, .string a0_2, .slice A0_3 l0_3.length c0_3]] w fun e w' => e = .returned (.int .i64 r) ∧ Below w.heap.size w w' := by
  have hu25 := Tryd.underlying25
  have HR0_3 := Aside0.mk hr0_3
  have HC0_3 := Aside0.mk hc0_3
  clear hr0_3 hc0_3
  have HB := Aside0.mk (Below.refl w.heap.size w)
  have H : (if a0_0 = 15 then (polyglotref16_Check.j0 k true a0_0 a0_1 a0_2 l0_3) else (polyglotref16_Check.j0 k (a0_0 == 18) a0_0 a0_1 a0_2 l0_3)) = some r := h
  clear h
  have HC2 := Aside0.mk H
  clear H
  go_enter Tryd.func47, Tryd.ntmps47
  go_upto_region 1 with (first | ((with_reducible refine gate_dst (N := 1) rfl ?_); (try (refine gate_guard (by rfl) ?_; dsimp only)); refine box_event rfl (N := 1) rfl (cs := #[.int .i64 a0_0, .int .u64 a0_1, .string a0_2, .slice A0_3 l0_3.length c0_3]) (t := 25) zh ?_; intro gb326 hg w3 hbox hb; have BK326 := Aside0.mk (hbox); have GW326 := Aside0.mk ((zge (w := w) hg)); have GE326 := Aside0.mk ((zge (w := w) hg)); replace HB := Aside0.mk (below_step zb hb); clear hb hbox hg))
  (try simp only [Act.put, List.setIfInBounds_toArray, List.set_cons_zero, List.set_cons_succ])
  go_cut [3] (fun v3 wc => ∃ (kq : Nat) (x3_1 : Bool), v3 = .bool x3_1 ∧ Aside0 (polyglotref16_Check.j0 kq x3_1 a0_0 a0_1 a0_2 l0_3 = some r) ∧ Aside0 (kq ≤ k) ∧ Aside0 (wc.heap[gb326]? = some (.cells #[.int .i64 a0_0, .int .u64 a0_1, .string a0_2, (.slice A0_3 l0_3.length c0_3)] 25 (0, 0))) ∧ Aside0 (Below w.heap.size w wc))
  case first =>
   have H := HC2.out
   clear HC2
   by_cases c4 : a0_0 = 15
   ·rw [if_pos c4] at H
    have c4b0 : (a0_0 == 15) = true := beq_iff_eq.mpr c4
    have c4b1 : (a0_0 != 15) = false := bne_eq_false_iff_eq.mpr c4
    clear c4
    (first | rw [c4b0] | (simp only [i64_w, i32_w]; rw [c4b0]) | skip)
    have H' := Aside0.mk H
    clear H
    obtain ⟨hcz5_0, hcz5_1, hcz5_2, hcz5_3, hfz5_0, hfz5_1, hfz5_2, hfz5_3⟩ := cz4 BK326.out
    go_wp2
    go_meet
    case rel => exact ⟨_, (true), zt, H', ⟨zo⟩, ⟨zk BK326.out⟩, ⟨zb⟩⟩
   ·rw [if_neg c4] at H
    have c4b0 : (a0_0 == 15) = false := beq_eq_false_iff_ne.mpr c4
    have c4b1 : (a0_0 != 15) = true := bne_iff_ne.mpr c4
    (first | rw [c4b0] | (simp only [i64_w, i32_w]; rw [c4b0]) | skip)
    have H' := Aside0.mk H
    clear H
    obtain ⟨hcz6_0, hcz6_1, hcz6_2, hcz6_3, hfz6_0, hfz6_1, hfz6_2, hfz6_3⟩ := cz4 BK326.out
    go_wp2
    go_meet
    case rel => exact ⟨_, ((a0_0 == 18)), zt, H', ⟨zo⟩, ⟨zk BK326.out⟩, ⟨zb⟩⟩
  case rest =>
   clear HC2
   obtain ⟨kq, x3_1, rfl, HA, HJ1, BK326, HB⟩ := hcut
   cases kq with
   | zero => exact absurd HA.out (by simp [polyglotref16_Check.j0])
   | succ kj1 =>
    have H := HA.out
    clear HA
    simp only [polyglotref16_Check.j0] at H
    have HC7 := Aside0.mk H
    clear H
    go_upto_region 2 with (fail)
    go_cut [12] (fun v12 wc => ∃ (kq : Nat) (x12_6 : Bool), v12 = .bool x12_6 ∧ Aside0 (polyglotref16_Check.j1 kq x3_1 x12_6 a0_0 a0_1 a0_2 l0_3 = some r) ∧ Aside0 (kq ≤ kj1) ∧ Aside0 (wc.heap[gb326]? = some (.cells #[.int .i64 a0_0, .int .u64 a0_1, .string a0_2, (.slice A0_3 l0_3.length c0_3)] 25 (0, 0))) ∧ Aside0 (Below w.heap.size w wc))
    case first =>
     have H := HC7.out
     clear HC7
     by_cases c8 : a0_0 < 1
     ·rw [if_pos c8] at H
      have c8b0 : decide (a0_0 < 1) = true := decide_eq_true c8
      clear c8
      (first | rw [c8b0] | (simp only [i64_w, i32_w]; rw [c8b0]) | skip)
      have H' := Aside0.mk H
      clear H
      obtain ⟨hcz9_0, hcz9_1, hcz9_2, hcz9_3, hfz9_0, hfz9_1, hfz9_2, hfz9_3⟩ := cz4 BK326.out
      go_wp2
      go_meet
      case rel => exact ⟨_, (true), zt, H', ⟨zoj HJ1.out⟩, ⟨zk BK326.out⟩, ⟨zb⟩⟩
     ·rw [if_neg c8] at H
      have c8b0 : decide (a0_0 < 1) = false := decide_eq_false c8
      clear c8
      (first | rw [c8b0] | (simp only [i64_w, i32_w]; rw [c8b0]) | skip)
      have H' := Aside0.mk H
      clear H
      obtain ⟨hcz10_0, hcz10_1, hcz10_2, hcz10_3, hfz10_0, hfz10_1, hfz10_2, hfz10_3⟩ := cz4 BK326.out
      go_wp2
      go_meet
      case rel => exact ⟨_, (decide (a0_0 > 21)), zt, H', ⟨zoj HJ1.out⟩, ⟨zk BK326.out⟩, ⟨zb⟩⟩
    case rest =>
     clear HC7
     obtain ⟨kq, x12_6, rfl, HA, HJ6, BK326, HB⟩ := hcut
     cases kq with
     | zero => exact absurd HA.out (by simp [polyglotref16_Check.j1])
     | succ kj6 =>
      have H := HA.out
      clear HA
      simp only [polyglotref16_Check.j1] at H
      by_cases c11 : x12_6 = true
      ·subst c11
       replace H := zyes H
       obtain rfl := Option.some.inj H
       go_wp2
       go_ret
       exact ⟨ze, zb⟩
      ·replace c11 := Bool.eq_false_iff.mpr c11
       subst c11
       replace H := zno H
       have HC12 := Aside0.mk H
       clear H
       go_upto_region 4 with (fail)
       go_cut [21] (fun v21 wc => ∃ (kq : Nat) (x21_11 : Bool), v21 = .bool x21_11 ∧ Aside0 (polyglotref16_Check.j2 kq x21_11 a0_0 a0_1 a0_2 l0_3 = some r) ∧ Aside0 (kq ≤ kj6) ∧ Aside0 (wc.heap[gb326]? = some (.cells #[.int .i64 a0_0, .int .u64 a0_1, .string a0_2, (.slice A0_3 l0_3.length c0_3)] 25 (0, 0))) ∧ Aside0 (Below w.heap.size w wc))
       case first =>
        have H := HC12.out
        clear HC12
        obtain ⟨t327, A13, H⟩ := zbd H
        by_cases c14 : t327 = true
        ·subst c14
         replace H := zyes H
         by_cases c15 : (l0_3.length : Int) > 0
         ·rw [if_pos c15] at H
          have c15b0 : decide (0 < (l0_3.length : Int)) = true := decide_eq_true c15
          have c15b1 : decide (0 < l0_3.length) = true := decide_eq_true (by omega)
          clear c15
          (first | rw [c15b0] | (simp only [i64_w, i32_w]; rw [c15b0]) | skip)
          have H' := Aside0.mk H
          clear H
          obtain ⟨hcz16_0, hcz16_1, hcz16_2, hcz16_3, hfz16_0, hfz16_1, hfz16_2, hfz16_3⟩ := cz4 BK326.out
          go_wp2_with (first | ((with_reducible refine gate_callee (f := 104) rfl ?_); refine goesL_ (some 23) rfl rfl Tryd.func104 (by kernel_rfl) rfl #[.agg #[.int .i64 a0_0, .int .u64 a0_1, .string a0_2, .slice A0_3 l0_3.length c0_3]] rfl za ?_; (with_reducible refine (polyglotref16_ranged.calls kj6 a0_0 a0_1 a0_2 _ _ l0_3 true _ ?side1 ?side2 A13.out).mono ?_); (case side1 => repeat (first | exact (Kd.C_below HR0_3.out HB.out) | (with_reducible refine Kd.C_alloc ?_ _) | (with_reducible refine Kd.C_drewN ?_ _) | (with_reducible refine Kd.C_drew ?_))); (case side2 => exact HC0_3.out); rintro e w17 ⟨rfl, hb⟩; refine ⟨_, rfl, ?_⟩; replace BK326 := Aside0.mk (zbb BK326.out hb); replace HB := Aside0.mk (below_step zb hb); (try clear hb); (try clear hb2); (try clear hk); (try clear hi); obtain ⟨hcz18_0, hcz18_1, hcz18_2, hcz18_3, hfz18_0, hfz18_1, hfz18_2, hfz18_3⟩ := cz4 BK326.out))
          go_meet
          case rel => exact ⟨_, (true), zt, H', ⟨by have := HJ1.out; have := HJ6.out; first | omega | exact Nat.le_refl _⟩, ⟨zk BK326.out⟩, ⟨zb⟩⟩
         ·rw [if_neg c15] at H
          have c15b0 : decide (0 < (l0_3.length : Int)) = false := decide_eq_false c15
          have c15b1 : decide (0 < l0_3.length) = false := decide_eq_false (by omega)
          clear c15
          (first | rw [c15b0] | (simp only [i64_w, i32_w]; rw [c15b0]) | skip)
          obtain ⟨t328, A19, H⟩ := zbd H
          by_cases c20 : t328 = true
          ·subst c20
           replace H := zyes H
           by_cases c21 : x3_1 = true
           ·subst c21
            replace H := zyes H
            have H' := Aside0.mk H
            clear H
            obtain ⟨hcz22_0, hcz22_1, hcz22_2, hcz22_3, hfz22_0, hfz22_1, hfz22_2, hfz22_3⟩ := cz4 BK326.out
            go_wp2_with (first | ((with_reducible refine gate_callee (f := 104) rfl ?_); refine goesL_ (some 23) rfl rfl Tryd.func104 (by kernel_rfl) rfl #[.agg #[.int .i64 a0_0, .int .u64 a0_1, .string a0_2, .slice A0_3 l0_3.length c0_3]] rfl za ?_; (with_reducible refine (polyglotref16_ranged.calls kj6 a0_0 a0_1 a0_2 _ _ l0_3 true _ ?side1 ?side2 A13.out).mono ?_); (case side1 => repeat (first | exact (Kd.C_below HR0_3.out HB.out) | (with_reducible refine Kd.C_alloc ?_ _) | (with_reducible refine Kd.C_drewN ?_ _) | (with_reducible refine Kd.C_drew ?_))); (case side2 => exact HC0_3.out); rintro e w23 ⟨rfl, hb⟩; refine ⟨_, rfl, ?_⟩; replace BK326 := Aside0.mk (zbb BK326.out hb); replace HB := Aside0.mk (below_step zb hb); (try clear hb); (try clear hb2); (try clear hk); (try clear hi); obtain ⟨hcz24_0, hcz24_1, hcz24_2, hcz24_3, hfz24_0, hfz24_1, hfz24_2, hfz24_3⟩ := cz4 BK326.out) | (go_at_call 105; (with_reducible refine (polyglotref16_texts.calls a0_0 true _ A19.out).mono ?_); rintro e w' ⟨rfl, ⟨nd, rfl⟩⟩))
            go_meet
            case rel => exact ⟨_, (((a0_2.size : Int) != 16)), zt, H', ⟨by have := HJ1.out; have := HJ6.out; first | omega | exact Nat.le_refl _⟩, ⟨zk BK326.out⟩, ⟨zb⟩⟩
           ·replace c21 := Bool.eq_false_iff.mpr c21
            subst c21
            replace H := zno H
            have H' := Aside0.mk H
            clear H
            obtain ⟨hcz25_0, hcz25_1, hcz25_2, hcz25_3, hfz25_0, hfz25_1, hfz25_2, hfz25_3⟩ := cz4 BK326.out
            go_wp2_with (first | ((with_reducible refine gate_callee (f := 104) rfl ?_); refine goesL_ (some 23) rfl rfl Tryd.func104 (by kernel_rfl) rfl #[.agg #[.int .i64 a0_0, .int .u64 a0_1, .string a0_2, .slice A0_3 l0_3.length c0_3]] rfl za ?_; (with_reducible refine (polyglotref16_ranged.calls kj6 a0_0 a0_1 a0_2 _ _ l0_3 true _ ?side1 ?side2 A13.out).mono ?_); (case side1 => repeat (first | exact (Kd.C_below HR0_3.out HB.out) | (with_reducible refine Kd.C_alloc ?_ _) | (with_reducible refine Kd.C_drewN ?_ _) | (with_reducible refine Kd.C_drew ?_))); (case side2 => exact HC0_3.out); rintro e w26 ⟨rfl, hb⟩; refine ⟨_, rfl, ?_⟩; replace BK326 := Aside0.mk (zbb BK326.out hb); replace HB := Aside0.mk (below_step zb hb); (try clear hb); (try clear hb2); (try clear hk); (try clear hi); obtain ⟨hcz27_0, hcz27_1, hcz27_2, hcz27_3, hfz27_0, hfz27_1, hfz27_2, hfz27_3⟩ := cz4 BK326.out) | (go_at_call 105; (with_reducible refine (polyglotref16_texts.calls a0_0 true _ A19.out).mono ?_); rintro e w' ⟨rfl, ⟨nd, rfl⟩⟩))
            go_meet
            case rel => exact ⟨_, (false), zt, H', ⟨by have := HJ1.out; have := HJ6.out; first | omega | exact Nat.le_refl _⟩, ⟨zk BK326.out⟩, ⟨zb⟩⟩
          ·replace c20 := Bool.eq_false_iff.mpr c20
           subst c20
           replace H := zno H
           by_cases c28 : a0_2.toList = ([] : List UInt8)
           ·rw [if_pos c28] at H
            have c28b0 : (a0_2.toList == ([] : List UInt8)) = true := beq_iff_eq.mpr c28
            have c28b1 : (a0_2.toList != ([] : List UInt8)) = false := bne_eq_false_iff_eq.mpr c28
            clear c28
            by_cases c29 : x3_1 = true
            ·subst c29
             replace H := zyes H
             have H' := Aside0.mk H
             clear H
             obtain ⟨hcz30_0, hcz30_1, hcz30_2, hcz30_3, hfz30_0, hfz30_1, hfz30_2, hfz30_3⟩ := cz4 BK326.out
             go_wp2_with (first | ((with_reducible refine gate_callee (f := 104) rfl ?_); refine goesL_ (some 23) rfl rfl Tryd.func104 (by kernel_rfl) rfl #[.agg #[.int .i64 a0_0, .int .u64 a0_1, .string a0_2, .slice A0_3 l0_3.length c0_3]] rfl za ?_; (with_reducible refine (polyglotref16_ranged.calls kj6 a0_0 a0_1 a0_2 _ _ l0_3 true _ ?side1 ?side2 A13.out).mono ?_); (case side1 => repeat (first | exact (Kd.C_below HR0_3.out HB.out) | (with_reducible refine Kd.C_alloc ?_ _) | (with_reducible refine Kd.C_drewN ?_ _) | (with_reducible refine Kd.C_drew ?_))); (case side2 => exact HC0_3.out); rintro e w31 ⟨rfl, hb⟩; refine ⟨_, rfl, ?_⟩; replace BK326 := Aside0.mk (zbb BK326.out hb); replace HB := Aside0.mk (below_step zb hb); (try clear hb); (try clear hb2); (try clear hk); (try clear hi); obtain ⟨hcz32_0, hcz32_1, hcz32_2, hcz32_3, hfz32_0, hfz32_1, hfz32_2, hfz32_3⟩ := cz4 BK326.out) | (go_at_call 105; (with_reducible refine (polyglotref16_texts.calls a0_0 false _ A19.out).mono ?_); rintro e w' ⟨rfl, ⟨nd, rfl⟩⟩))
             go_meet
             case rel => exact ⟨_, (((a0_2.size : Int) != 16)), zt, H', ⟨by have := HJ1.out; have := HJ6.out; first | omega | exact Nat.le_refl _⟩, ⟨zk BK326.out⟩, ⟨zb⟩⟩
            ·replace c29 := Bool.eq_false_iff.mpr c29
             subst c29
             replace H := zno H
             have H' := Aside0.mk H
             clear H
             obtain ⟨hcz33_0, hcz33_1, hcz33_2, hcz33_3, hfz33_0, hfz33_1, hfz33_2, hfz33_3⟩ := cz4 BK326.out
             go_wp2_with (first | ((with_reducible refine gate_callee (f := 104) rfl ?_); refine goesL_ (some 23) rfl rfl Tryd.func104 (by kernel_rfl) rfl #[.agg #[.int .i64 a0_0, .int .u64 a0_1, .string a0_2, .slice A0_3 l0_3.length c0_3]] rfl za ?_; (with_reducible refine (polyglotref16_ranged.calls kj6 a0_0 a0_1 a0_2 _ _ l0_3 true _ ?side1 ?side2 A13.out).mono ?_); (case side1 => repeat (first | exact (Kd.C_below HR0_3.out HB.out) | (with_reducible refine Kd.C_alloc ?_ _) | (with_reducible refine Kd.C_drewN ?_ _) | (with_reducible refine Kd.C_drew ?_))); (case side2 => exact HC0_3.out); rintro e w34 ⟨rfl, hb⟩; refine ⟨_, rfl, ?_⟩; replace BK326 := Aside0.mk (zbb BK326.out hb); replace HB := Aside0.mk (below_step zb hb); (try clear hb); (try clear hb2); (try clear hk); (try clear hi); obtain ⟨hcz35_0, hcz35_1, hcz35_2, hcz35_3, hfz35_0, hfz35_1, hfz35_2, hfz35_3⟩ := cz4 BK326.out) | (go_at_call 105; (with_reducible refine (polyglotref16_texts.calls a0_0 false _ A19.out).mono ?_); rintro e w' ⟨rfl, ⟨nd, rfl⟩⟩))
             go_meet
             case rel => exact ⟨_, (false), zt, H', ⟨by have := HJ1.out; have := HJ6.out; first | omega | exact Nat.le_refl _⟩, ⟨zk BK326.out⟩, ⟨zb⟩⟩
           ·rw [if_neg c28] at H
            have c28b0 : (a0_2.toList == ([] : List UInt8)) = false := beq_eq_false_iff_ne.mpr c28
            have c28b1 : (a0_2.toList != ([] : List UInt8)) = true := bne_iff_ne.mpr c28
            have H' := Aside0.mk H
            clear H
            obtain ⟨hcz36_0, hcz36_1, hcz36_2, hcz36_3, hfz36_0, hfz36_1, hfz36_2, hfz36_3⟩ := cz4 BK326.out
            go_wp2_with (first | ((with_reducible refine gate_callee (f := 104) rfl ?_); refine goesL_ (some 23) rfl rfl Tryd.func104 (by kernel_rfl) rfl #[.agg #[.int .i64 a0_0, .int .u64 a0_1, .string a0_2, .slice A0_3 l0_3.length c0_3]] rfl za ?_; (with_reducible refine (polyglotref16_ranged.calls kj6 a0_0 a0_1 a0_2 _ _ l0_3 true _ ?side1 ?side2 A13.out).mono ?_); (case side1 => repeat (first | exact (Kd.C_below HR0_3.out HB.out) | (with_reducible refine Kd.C_alloc ?_ _) | (with_reducible refine Kd.C_drewN ?_ _) | (with_reducible refine Kd.C_drew ?_))); (case side2 => exact HC0_3.out); rintro e w37 ⟨rfl, hb⟩; refine ⟨_, rfl, ?_⟩; replace BK326 := Aside0.mk (zbb BK326.out hb); replace HB := Aside0.mk (below_step zb hb); (try clear hb); (try clear hb2); (try clear hk); (try clear hi); obtain ⟨hcz38_0, hcz38_1, hcz38_2, hcz38_3, hfz38_0, hfz38_1, hfz38_2, hfz38_3⟩ := cz4 BK326.out) | (go_at_call 105; (with_reducible refine (polyglotref16_texts.calls a0_0 false _ A19.out).mono ?_); rintro e w' ⟨rfl, ⟨nd, rfl⟩⟩))
            go_meet
            case rel => exact ⟨_, (true), zt, H', ⟨by have := HJ1.out; have := HJ6.out; first | omega | exact Nat.le_refl _⟩, ⟨zk BK326.out⟩, ⟨zb⟩⟩
        ·replace c14 := Bool.eq_false_iff.mpr c14
         subst c14
         replace H := zno H
         have H' := Aside0.mk H
         clear H
         obtain ⟨hcz39_0, hcz39_1, hcz39_2, hcz39_3, hfz39_0, hfz39_1, hfz39_2, hfz39_3⟩ := cz4 BK326.out
         go_wp2_with (first | ((with_reducible refine gate_callee (f := 104) rfl ?_); refine goesL_ (some 23) rfl rfl Tryd.func104 (by kernel_rfl) rfl #[.agg #[.int .i64 a0_0, .int .u64 a0_1, .string a0_2, .slice A0_3 l0_3.length c0_3]] rfl za ?_; (with_reducible refine (polyglotref16_ranged.calls kj6 a0_0 a0_1 a0_2 _ _ l0_3 false _ ?side1 ?side2 A13.out).mono ?_); (case side1 => repeat (first | exact (Kd.C_below HR0_3.out HB.out) | (with_reducible refine Kd.C_alloc ?_ _) | (with_reducible refine Kd.C_drewN ?_ _) | (with_reducible refine Kd.C_drew ?_))); (case side2 => exact HC0_3.out); rintro e w40 ⟨rfl, hb⟩; refine ⟨_, rfl, ?_⟩; replace BK326 := Aside0.mk (zbb BK326.out hb); replace HB := Aside0.mk (below_step zb hb); (try clear hb); (try clear hb2); (try clear hk); (try clear hi)))
         go_meet
         case rel => exact ⟨_, (true), zt, H', ⟨by have := HJ1.out; have := HJ6.out; first | omega | exact Nat.le_refl _⟩, ⟨zk BK326.out⟩, ⟨zb⟩⟩
       case rest =>
        clear HC12
        try clear c11
        obtain ⟨kq, x21_11, rfl, HA, HJ11, BK326, HB⟩ := hcut
        cases kq with
        | zero => exact absurd HA.out (by simp [polyglotref16_Check.j2])
        | succ kj11 =>
         have H := HA.out
         clear HA
         simp only [polyglotref16_Check.j2] at H
         by_cases c41 : x21_11 = true
         ·subst c41
          replace H := zyes H
          obtain rfl := Option.some.inj H
          go_wp2
          go_ret
          exact ⟨ze, zb⟩
         ·replace c41 := Bool.eq_false_iff.mpr c41
          subst c41
          replace H := zno H
          by_cases c42 : (a0_2.size : Int) > 1048576
          ·rw [if_pos c42] at H
           have c42b0 : decide (1048576 < (a0_2.size : Int)) = true := decide_eq_true c42
           have c42b1 : decide (1048576 < a0_2.size) = true := decide_eq_true (by omega)
           clear c42
           obtain rfl := Option.some.inj H
           obtain ⟨hcz43_0, hcz43_1, hcz43_2, hcz43_3, hfz43_0, hfz43_1, hfz43_2, hfz43_3⟩ := cz4 BK326.out
           go_wp2
           go_ret
           exact ⟨ze, zb⟩
          ·rw [if_neg c42] at H
           have c42b0 : decide (1048576 < (a0_2.size : Int)) = false := decide_eq_false c42
           have c42b1 : decide (1048576 < a0_2.size) = false := decide_eq_false (by omega)
           clear c42
           by_cases c44 : a0_0 = 20
           ·rw [if_pos c44] at H
            have c44b0 : (a0_0 == 20) = true := beq_iff_eq.mpr c44
            have c44b1 : (a0_0 != 20) = false := bne_eq_false_iff_eq.mpr c44
            clear c44
            obtain ⟨t329, A45, H⟩ := zbd H
            by_cases c46 : t329 = true
            ·subst c46
             replace H := zyes H
             by_cases c47 : a0_0 = 21
             ·rw [if_pos c47] at H
              have c47b0 : (a0_0 == 21) = true := beq_iff_eq.mpr c47
              have c47b1 : (a0_0 != 21) = false := bne_eq_false_iff_eq.mpr c47
              clear c47
              obtain ⟨t330, A48, H⟩ := zbd H
              by_cases c49 : t330 = true
              ·subst c49
               replace H := zyes H
               obtain rfl := Option.some.inj H
               obtain ⟨hcz50_0, hcz50_1, hcz50_2, hcz50_3, hfz50_0, hfz50_1, hfz50_2, hfz50_3⟩ := cz4 BK326.out
               go_wp2_with (first | (go_at_call 106; (with_reducible refine (polyglotref16_utf8.calls kj11 a0_2 true _ A45.out).mono ?_); rintro e w' ⟨rfl, ⟨nd, rfl⟩⟩) | (go_at_call 107; (with_reducible refine (polyglotref16_ascii.calls kj11 a0_2 true _ A48.out).mono ?_); rintro e w' ⟨rfl, ⟨nd, rfl⟩⟩))
               go_ret
               exact ⟨ze, zb⟩
              ·replace c49 := Bool.eq_false_iff.mpr c49
               subst c49
               replace H := zno H
               obtain rfl := Option.some.inj H
               obtain ⟨hcz51_0, hcz51_1, hcz51_2, hcz51_3, hfz51_0, hfz51_1, hfz51_2, hfz51_3⟩ := cz4 BK326.out
               go_wp2_with (first | (go_at_call 106; (with_reducible refine (polyglotref16_utf8.calls kj11 a0_2 true _ A45.out).mono ?_); rintro e w' ⟨rfl, ⟨nd, rfl⟩⟩) | (go_at_call 107; (with_reducible refine (polyglotref16_ascii.calls kj11 a0_2 false _ A48.out).mono ?_); rintro e w' ⟨rfl, ⟨nd, rfl⟩⟩))
               go_ret
               exact ⟨ze, zb⟩
             ·rw [if_neg c47] at H
              have c47b0 : (a0_0 == 21) = false := beq_eq_false_iff_ne.mpr c47
              have c47b1 : (a0_0 != 21) = true := bne_iff_ne.mpr c47
              obtain rfl := Option.some.inj H
              obtain ⟨hcz52_0, hcz52_1, hcz52_2, hcz52_3, hfz52_0, hfz52_1, hfz52_2, hfz52_3⟩ := cz4 BK326.out
              go_wp2_with (first | (go_at_call 106; (with_reducible refine (polyglotref16_utf8.calls kj11 a0_2 true _ A45.out).mono ?_); rintro e w' ⟨rfl, ⟨nd, rfl⟩⟩))
              go_ret
              exact ⟨ze, zb⟩
            ·replace c46 := Bool.eq_false_iff.mpr c46
             subst c46
             replace H := zno H
             obtain rfl := Option.some.inj H
             obtain ⟨hcz53_0, hcz53_1, hcz53_2, hcz53_3, hfz53_0, hfz53_1, hfz53_2, hfz53_3⟩ := cz4 BK326.out
             go_wp2_with (first | (go_at_call 106; (with_reducible refine (polyglotref16_utf8.calls kj11 a0_2 false _ A45.out).mono ?_); rintro e w' ⟨rfl, ⟨nd, rfl⟩⟩))
             go_ret
             exact ⟨ze, zb⟩
           ·rw [if_neg c44] at H
            have c44b0 : (a0_0 == 20) = false := beq_eq_false_iff_ne.mpr c44
            have c44b1 : (a0_0 != 20) = true := bne_iff_ne.mpr c44
            by_cases c54 : a0_0 = 21
            ·rw [if_pos c54] at H
             have c54b0 : (a0_0 == 21) = true := beq_iff_eq.mpr c54
             have c54b1 : (a0_0 != 21) = false := bne_eq_false_iff_eq.mpr c54
             clear c54
             obtain ⟨t331, A55, H⟩ := zbd H
             by_cases c56 : t331 = true
             ·subst c56
              replace H := zyes H
              obtain rfl := Option.some.inj H
              obtain ⟨hcz57_0, hcz57_1, hcz57_2, hcz57_3, hfz57_0, hfz57_1, hfz57_2, hfz57_3⟩ := cz4 BK326.out
              go_wp2_with (first | (go_at_call 107; (with_reducible refine (polyglotref16_ascii.calls kj11 a0_2 true _ A55.out).mono ?_); rintro e w' ⟨rfl, ⟨nd, rfl⟩⟩))
              go_ret
              exact ⟨ze, zb⟩
             ·replace c56 := Bool.eq_false_iff.mpr c56
              subst c56
              replace H := zno H
              obtain rfl := Option.some.inj H
              obtain ⟨hcz58_0, hcz58_1, hcz58_2, hcz58_3, hfz58_0, hfz58_1, hfz58_2, hfz58_3⟩ := cz4 BK326.out
              go_wp2_with (first | (go_at_call 107; (with_reducible refine (polyglotref16_ascii.calls kj11 a0_2 false _ A55.out).mono ?_); rintro e w' ⟨rfl, ⟨nd, rfl⟩⟩))
              go_ret
              exact ⟨ze, zb⟩
            ·rw [if_neg c54] at H
             have c54b0 : (a0_0 == 21) = false := beq_eq_false_iff_ne.mpr c54
             have c54b1 : (a0_0 != 21) = true := bne_iff_ne.mpr c54
             obtain rfl := Option.some.inj H
             obtain ⟨hcz59_0, hcz59_1, hcz59_2, hcz59_3, hfz59_0, hfz59_1, hfz59_2, hfz59_3⟩ := cz4 BK326.out
             go_wp2
             go_ret
             exact ⟨ze, zb⟩
set_option maxHeartbeats 8000000 in
set_option maxRecDepth 100000 in
theorem polyglotref16_Fits.calls (k : Nat) (a0 : Int) (a1_0 : Int) (a1_1 : Int) (a1_2 : ByteArray) (A1_3 : Option Addr) (c1_3 : Nat) (l1_3 : List (Vl)) (r : Bool) (w : World) (hr1_3 : Kd.C kV w A1_3 l1_3.length l1_3) (hc1_3 : l1_3.length ≤ c1_3) (h : polyglotref16_Fits.f k a0 a1_0 a1_1 a1_2 l1_3 = some r) :
    Calls Tryd.prog 48 #[.int .i64 a0, .agg #[.int .i64 a1_0, .int .u64 a1_1, .string a1_2, .slice A1_3 l1_3.length c1_3]] w fun e w' => e = .returned (.bool r) ∧ Below w.heap.size w w' := by
  have hu25 := Tryd.underlying25
  have hu34 := Tryd.underlying34
  have HR1_3 := Aside0.mk hr1_3
  have HC1_3 := Aside0.mk hc1_3
  clear hr1_3 hc1_3
  have HB := Aside0.mk (Below.refl w.heap.size w)
  have H : ((polyglotref16_Of.f k a0).bind fun bt368 => (if bt368.2.2.2.2.2 = true then (if bt368.2.1 = a1_0 then ((polyglotref16_Check.f k a1_0 a1_1 a1_2 l1_3).bind fun t375 => (polyglotref16_Fits.j0 k a0 (t375 != 0) a1_0 a1_1 a1_2 l1_3 bt368.1 bt368.2.1 bt368.2.2.1 bt368.2.2.2.1 bt368.2.2.2.2.1)) else (polyglotref16_Fits.j0 k a0 true a1_0 a1_1 a1_2 l1_3 bt368.1 bt368.2.1 bt368.2.2.1 bt368.2.2.2.1 bt368.2.2.2.2.1)) else (polyglotref16_Fits.j0 k a0 true a1_0 a1_1 a1_2 l1_3 bt368.1 bt368.2.1 bt368.2.2.1 bt368.2.2.2.1 bt368.2.2.2.2.1))) = some r := h
  clear h
  obtain ⟨⟨t368, t369, t370, t371, t372, t373⟩, A3, H⟩ := zbd H
  dsimp only at H
  have HC4 := Aside0.mk H
  clear H
  go_enter Tryd.func48, Tryd.ntmps48
  go_upto_region 2 with (first | ((with_reducible refine gate_dst (N := 3) rfl ?_); refine box_event rfl (N := 3) rfl (cs := #[.int .i64 a1_0, .int .u64 a1_1, .string a1_2, .slice A1_3 l1_3.length c1_3]) (t := 25) zh ?_; intro gb367 hg w5 hbox hb; have BK367 := Aside0.mk (hbox); have GW367 := Aside0.mk ((zge (w := w) hg)); have GE367 := Aside0.mk ((zge (w := w) hg)); replace HB := Aside0.mk (below_step zb hb); clear hb hbox hg) | ((with_reducible refine gate_callee (f := 40) rfl ?_); refine goesL_ (some 9) rfl rfl Tryd.func40 (by kernel_rfl) rfl #[.int .i64 a0] rfl za ?_; (with_reducible refine (polyglotref16_Of.calls k a0 t368 t369 t370 t371 t372 t373 _ A3.out).mono ?_); rintro e w6 ⟨rfl, hb⟩; refine ⟨_, rfl, ?_⟩; replace BK367 := Aside0.mk (zbb BK367.out hb); replace HB := Aside0.mk (below_step zb hb); (try clear hb); (try clear hb2); (try clear hk); (try clear hi)) | ((with_reducible refine gate_dst (N := 5) rfl ?_); refine box_event rfl (N := 5) rfl (cs := #[.int .i64 0, .int .i64 0, .int .i64 0, .bool false, .bool false]) (t := 34) zh ?_; intro gb374 hg w7 hbox hb; have BK374 := Aside0.mk (hbox); have GW374 := Aside0.mk ((zge (w := w) hg)); have GE374 := Aside0.mk ((zge (w := w) hg)); have NB367_374 := Aside0.mk ((znl BK367.out hg)); have NB374_367 := Aside0.mk ((zng BK367.out hg)); replace BK367 := Aside0.mk (zbb BK367.out hb); replace HB := Aside0.mk (below_step zb hb); clear hb hbox hg; have hnb8 := NB374_367.out; have hnc8 := NB367_374.out; obtain ⟨hcz9_0, hcz9_1, hcz9_2, hcz9_3, hcz9_4, hfz9_0, hfz9_1, hfz9_2, hfz9_3, hfz9_4⟩ := cz5 BK374.out))
  (try simp only [Act.put, List.setIfInBounds_toArray, List.set_cons_zero, List.set_cons_succ])
  go_cut [25] (fun v25 wc => ∃ (kq : Nat) (x25_3 : Bool), v25 = .bool x25_3 ∧ Aside0 (polyglotref16_Fits.j0 kq a0 x25_3 a1_0 a1_1 a1_2 l1_3 t368 t369 t370 t371 t372 = some r) ∧ Aside0 (kq ≤ k) ∧ Aside0 (wc.heap[gb367]? = some (.cells #[.int .i64 a1_0, .int .u64 a1_1, .string a1_2, (.slice A1_3 l1_3.length c1_3)] 25 (0, 0))) ∧ Aside0 (wc.heap[gb374]? = some (.cells #[.int .i64 t368, .int .i64 t369, .int .i64 t370, .bool t371, .bool t372] 34 (0, 0))) ∧ Aside0 (Below w.heap.size w wc))
  case first =>
   have H := HC4.out
   clear HC4
   by_cases c10 : t373 = true
   ·subst c10
    replace H := zyes H
    by_cases c11 : t369 = a1_0
    ·rw [if_pos c11] at H
     have c11b0 : (t369 == a1_0) = true := beq_iff_eq.mpr c11
     have c11b1 : (t369 != a1_0) = false := bne_eq_false_iff_eq.mpr c11
     clear c11
     (first | rw [c11b0] | (simp only [i64_w, i32_w]; rw [c11b0]) | skip)
     obtain ⟨t375, A12, H⟩ := zbd H
     have H' := Aside0.mk H
     clear H
     have hnb13 := NB374_367.out
     have hnc13 := NB367_374.out
     obtain ⟨hcz14_0, hcz14_1, hcz14_2, hcz14_3, hcz14_4, hfz14_0, hfz14_1, hfz14_2, hfz14_3, hfz14_4⟩ := cz5 BK374.out
     obtain ⟨hcz15_0, hcz15_1, hcz15_2, hcz15_3, hfz15_0, hfz15_1, hfz15_2, hfz15_3⟩ := cz4 BK367.out
     go_wp2_with (first | (go_at_call 47; (with_reducible refine (polyglotref16_Check.calls k a1_0 a1_1 a1_2 _ _ l1_3 t375 _ ?side1 ?side2 A12.out).mono ?_); (case side1 => exact Kd.C_below HR1_3.out zb); (case side2 => exact HC1_3.out); rintro e w16 ⟨rfl, hb⟩; replace BK367 := Aside0.mk (zbb BK367.out hb); replace BK374 := Aside0.mk (blk_below (g := gb374) (o := .cells #[.int .i64 t368, .int .i64 t369, .int .i64 t370, .bool t371, .bool t372] 34 (0, 0)) (zp5 BK374.out _ _ _ _ _) hb); replace HB := Aside0.mk (below_step zb hb); (try clear hb); (try clear hb2); (try clear hk); (try clear hi)))
     go_meet
     case rel => exact ⟨_, ((t375 != 0)), zt, H', ⟨zo⟩, ⟨zk BK367.out⟩, ⟨zk BK374.out⟩, ⟨zb⟩⟩
    ·rw [if_neg c11] at H
     have c11b0 : (t369 == a1_0) = false := beq_eq_false_iff_ne.mpr c11
     have c11b1 : (t369 != a1_0) = true := bne_iff_ne.mpr c11
     (first | rw [c11b0] | (simp only [i64_w, i32_w]; rw [c11b0]) | skip)
     have H' := Aside0.mk H
     clear H
     have hnb17 := NB374_367.out
     have hnc17 := NB367_374.out
     obtain ⟨hcz18_0, hcz18_1, hcz18_2, hcz18_3, hcz18_4, hfz18_0, hfz18_1, hfz18_2, hfz18_3, hfz18_4⟩ := cz5 BK374.out
     obtain ⟨hcz19_0, hcz19_1, hcz19_2, hcz19_3, hfz19_0, hfz19_1, hfz19_2, hfz19_3⟩ := cz4 BK367.out
     go_wp2
     go_meet
     case rel => exact ⟨_, (true), zt, H', ⟨zo⟩, ⟨zk BK367.out⟩, ⟨zp5 BK374.out _ _ _ _ _⟩, ⟨zb⟩⟩
   ·replace c10 := Bool.eq_false_iff.mpr c10
    subst c10
    replace H := zno H
    have H' := Aside0.mk H
    clear H
    go_wp2
    go_meet
    case rel => exact ⟨_, (true), zt, H', ⟨zo⟩, ⟨zk BK367.out⟩, ⟨zp5 BK374.out _ _ _ _ _⟩, ⟨zb⟩⟩
  case rest =>
   clear HC4
   try clear hcz9_0
   try clear hcz9_1
   try clear hcz9_2
   try clear hcz9_3
   try clear hcz9_4
   try clear hfz9_0
   try clear hfz9_1
   try clear hfz9_2
   try clear hfz9_3
   try clear hfz9_4
   obtain ⟨kq, x25_3, rfl, HA, HJ3, BK367, BK374, HB⟩ := hcut
   cases kq with
   | zero => exact absurd HA.out (by simp [polyglotref16_Fits.j0])
   | succ kj3 =>
    have H := HA.out
    clear HA
    simp only [polyglotref16_Fits.j0] at H
    by_cases c20 : x25_3 = true
    ·subst c20
     replace H := zyes H
     obtain rfl := Option.some.inj H
     go_wp2
     go_ret
     exact ⟨ze, zb⟩
    ·replace c20 := Bool.eq_false_iff.mpr c20
     subst c20
     replace H := zno H
     by_cases c21 : a0 = 65
     ·rw [if_pos c21] at H
      have c21b0 : (a0 == 65) = true := beq_iff_eq.mpr c21
      have c21b1 : (a0 != 65) = false := bne_eq_false_iff_eq.mpr c21
      clear c21
      obtain rfl := Option.some.inj H
      have hnb22 := NB367_374.out
      have hnc22 := NB374_367.out
      obtain ⟨hcz23_0, hcz23_1, hcz23_2, hcz23_3, hfz23_0, hfz23_1, hfz23_2, hfz23_3⟩ := cz4 BK367.out
      go_wp2
      go_ret
      exact ⟨ze, zb⟩
     ·rw [if_neg c21] at H
      have c21b0 : (a0 == 65) = false := beq_eq_false_iff_ne.mpr c21
      have c21b1 : (a0 != 65) = true := bne_iff_ne.mpr c21
      by_cases c24 : t370 = 0
      ·rw [if_pos c24] at H
       have c24b0 : (t370 == 0) = true := beq_iff_eq.mpr c24
       have c24b1 : (t370 != 0) = false := bne_eq_false_iff_eq.mpr c24
       clear c24
       obtain rfl := Option.some.inj H
       have hnb25 := NB374_367.out
       have hnc25 := NB367_374.out
       obtain ⟨hcz26_0, hcz26_1, hcz26_2, hcz26_3, hcz26_4, hfz26_0, hfz26_1, hfz26_2, hfz26_3, hfz26_4⟩ := cz5 BK374.out
       obtain ⟨hcz27_0, hcz27_1, hcz27_2, hcz27_3, hfz27_0, hfz27_1, hfz27_2, hfz27_3⟩ := cz4 BK367.out
       go_wp2
       go_ret
       exact ⟨ze, zb⟩
      ·rw [if_neg c24] at H
       have c24b0 : (t370 == 0) = false := beq_eq_false_iff_ne.mpr c24
       have c24b1 : (t370 != 0) = true := bne_iff_ne.mpr c24
       have HC28 := Aside0.mk H
       clear H
       have hnb29 := NB374_367.out
       have hnc29 := NB367_374.out
       obtain ⟨hcz30_0, hcz30_1, hcz30_2, hcz30_3, hcz30_4, hfz30_0, hfz30_1, hfz30_2, hfz30_3, hfz30_4⟩ := cz5 BK374.out
       go_upto_region 8 with (fail)
       go_cut [39] (fun v39 wc => ∃ (kq : Nat) (x39_27 : Bool), v39 = .bool x39_27 ∧ Aside0 (polyglotref16_Fits.j1 kq a0 x39_27 a1_0 a1_1 a1_2 l1_3 = some r) ∧ Aside0 (kq ≤ kj3) ∧ Aside0 (wc.heap[gb367]? = some (.cells #[.int .i64 a1_0, .int .u64 a1_1, .string a1_2, (.slice A1_3 l1_3.length c1_3)] 25 (0, 0))) ∧ Aside0 (wc.heap[gb374]? = some (.cells #[.int .i64 t368, .int .i64 t369, .int .i64 t370, .bool t371, .bool t372] 34 (0, 0))) ∧ Aside0 (Below w.heap.size w wc))
       case first =>
        have H := HC28.out
        clear HC28
        by_cases c31 : t371 = true
        ·subst c31
         replace H := zyes H
         have H' := Aside0.mk H
         clear H
         have hnb32 := NB374_367.out
         have hnc32 := NB367_374.out
         obtain ⟨hcz33_0, hcz33_1, hcz33_2, hcz33_3, hcz33_4, hfz33_0, hfz33_1, hfz33_2, hfz33_3, hfz33_4⟩ := cz5 BK374.out
         go_wp2
         go_meet
         case rel => exact ⟨_, ((t370 == 1)), zt, H', ⟨zoj HJ3.out⟩, ⟨zk BK367.out⟩, ⟨zk BK374.out⟩, ⟨zb⟩⟩
        ·replace c31 := Bool.eq_false_iff.mpr c31
         subst c31
         replace H := zno H
         have H' := Aside0.mk H
         clear H
         have hnb34 := NB374_367.out
         have hnc34 := NB367_374.out
         obtain ⟨hcz35_0, hcz35_1, hcz35_2, hcz35_3, hcz35_4, hfz35_0, hfz35_1, hfz35_2, hfz35_3, hfz35_4⟩ := cz5 BK374.out
         go_wp2
         go_meet
         case rel => exact ⟨_, (false), zt, H', ⟨zoj HJ3.out⟩, ⟨zk BK367.out⟩, ⟨zk BK374.out⟩, ⟨zb⟩⟩
       case rest =>
        clear HC28
        try clear c20
        try clear c21
        try clear c21b0
        try clear c21b1
        try clear c24
        try clear c24b0
        try clear c24b1
        try clear hcz30_0
        try clear hcz30_1
        try clear hcz30_2
        try clear hcz30_3
        try clear hcz30_4
        try clear hcz9_0
        try clear hcz9_1
        try clear hcz9_2
        try clear hcz9_3
        try clear hcz9_4
        try clear hfz30_0
        try clear hfz30_1
        try clear hfz30_2
        try clear hfz30_3
        try clear hfz30_4
        try clear hfz9_0
        try clear hfz9_1
        try clear hfz9_2
        try clear hfz9_3
        try clear hfz9_4
        obtain ⟨kq, x39_27, rfl, HA, HJ27, BK367, BK374, HB⟩ := hcut
        cases kq with
        | zero => exact absurd HA.out (by simp [polyglotref16_Fits.j1])
        | succ kj27 =>
         have H := HA.out
         clear HA
         simp only [polyglotref16_Fits.j1] at H
         by_cases c36 : x39_27 = true
         ·subst c36
          replace H := zyes H
          obtain rfl := Option.some.inj H
          have hnb37 := NB367_374.out
          have hnc37 := NB374_367.out
          obtain ⟨hcz38_0, hcz38_1, hcz38_2, hcz38_3, hfz38_0, hfz38_1, hfz38_2, hfz38_3⟩ := cz4 BK367.out
          go_wp2
          go_ret
          exact ⟨ze, zb⟩
         ·replace c36 := Bool.eq_false_iff.mpr c36
          subst c36
          replace H := zno H
          have HC39 := Aside0.mk H
          clear H
          go_upto_region 10 with (fail)
          go_cut [51] (fun v51 wc => ∃ (kq : Nat) (x51_38 : Bool), v51 = .bool x51_38 ∧ Aside0 (polyglotref16_Fits.j2 kq a0 x51_38 a1_0 a1_1 a1_2 l1_3 = some r) ∧ Aside0 (kq ≤ kj27) ∧ Aside0 (wc.heap[gb367]? = some (.cells #[.int .i64 a1_0, .int .u64 a1_1, .string a1_2, (.slice A1_3 l1_3.length c1_3)] 25 (0, 0))) ∧ Aside0 (wc.heap[gb374]? = some (.cells #[.int .i64 t368, .int .i64 t369, .int .i64 t370, .bool t371, .bool t372] 34 (0, 0))) ∧ Aside0 (Below w.heap.size w wc))
          case first =>
           have H := HC39.out
           clear HC39
           by_cases c40 : a0 = 82
           ·rw [if_pos c40] at H
            have c40b0 : (a0 == 82) = true := beq_iff_eq.mpr c40
            have c40b1 : (a0 != 82) = false := bne_eq_false_iff_eq.mpr c40
            clear c40
            (first | rw [c40b0] | (simp only [i64_w, i32_w]; rw [c40b0]) | skip)
            have H' := Aside0.mk H
            clear H
            go_wp2
            go_meet
            case rel => exact ⟨_, (true), zt, H', ⟨by have := HJ3.out; have := HJ27.out; first | omega | exact Nat.le_refl _⟩, ⟨zk BK367.out⟩, ⟨zk BK374.out⟩, ⟨zb⟩⟩
           ·rw [if_neg c40] at H
            have c40b0 : (a0 == 82) = false := beq_eq_false_iff_ne.mpr c40
            have c40b1 : (a0 != 82) = true := bne_iff_ne.mpr c40
            (first | rw [c40b0] | (simp only [i64_w, i32_w]; rw [c40b0]) | skip)
            have H' := Aside0.mk H
            clear H
            go_wp2
            go_meet
            case rel => exact ⟨_, ((a0 == 83)), zt, H', ⟨by have := HJ3.out; have := HJ27.out; first | omega | exact Nat.le_refl _⟩, ⟨zk BK367.out⟩, ⟨zk BK374.out⟩, ⟨zb⟩⟩
          case rest =>
           clear HC39
           try clear c20
           try clear c21
           try clear c21b0
           try clear c21b1
           try clear c24
           try clear c24b0
           try clear c24b1
           try clear c36
           try clear hcz30_0
           try clear hcz30_1
           try clear hcz30_2
           try clear hcz30_3
           try clear hcz30_4
           try clear hcz9_0
           try clear hcz9_1
           try clear hcz9_2
           try clear hcz9_3
           try clear hcz9_4
           try clear hfz30_0
           try clear hfz30_1
           try clear hfz30_2
           try clear hfz30_3
           try clear hfz30_4
           try clear hfz9_0
           try clear hfz9_1
           try clear hfz9_2
           try clear hfz9_3
           try clear hfz9_4
           obtain ⟨kq, x51_38, rfl, HA, HJ38, BK367, BK374, HB⟩ := hcut
           cases kq with
           | zero => exact absurd HA.out (by simp [polyglotref16_Fits.j2])
           | succ kj38 =>
            have H := HA.out
            clear HA
            simp only [polyglotref16_Fits.j2] at H
            by_cases c41 : x51_38 = true
            ·subst c41
             replace H := zyes H
             obtain rfl := Option.some.inj H
             have hnb42 := NB367_374.out
             have hnc42 := NB374_367.out
             obtain ⟨hcz43_0, hcz43_1, hcz43_2, hcz43_3, hfz43_0, hfz43_1, hfz43_2, hfz43_3⟩ := cz4 BK367.out
             go_wp2
             go_ret
             exact ⟨ze, zb⟩
            ·replace c41 := Bool.eq_false_iff.mpr c41
             subst c41
             replace H := zno H
             by_cases c44 : a0 = 84
             ·rw [if_pos c44] at H
              have c44b0 : (a0 == 84) = true := beq_iff_eq.mpr c44
              have c44b1 : (a0 != 84) = false := bne_eq_false_iff_eq.mpr c44
              clear c44
              obtain ⟨t376, A45, H⟩ := zbd H
              obtain rfl := Option.some.inj H
              have hnb46 := NB367_374.out
              have hnc46 := NB374_367.out
              obtain ⟨hcz47_0, hcz47_1, hcz47_2, hcz47_3, hfz47_0, hfz47_1, hfz47_2, hfz47_3⟩ := cz4 BK367.out
              go_wp2_with (first | ((with_reducible refine gate_callee (f := 108) rfl ?_); refine goesL_ (some 70) rfl rfl Tryd.func108 (by kernel_rfl) rfl #[.int .u64 a1_1, .int .u64 8] rfl za ?_; (with_reducible refine (polyglotref16_signed.calls a1_1 8 t376 _ A45.out).mono ?_); rintro e w' ⟨rfl, ⟨nd, rfl⟩⟩; refine ⟨_, rfl, ?_⟩))
              go_ret
              exact ⟨ze, zb⟩
             ·rw [if_neg c44] at H
              have c44b0 : (a0 == 84) = false := beq_eq_false_iff_ne.mpr c44
              have c44b1 : (a0 != 84) = true := bne_iff_ne.mpr c44
              by_cases c48 : a0 = 85
              ·rw [if_pos c48] at H
               have c48b0 : (a0 == 85) = true := beq_iff_eq.mpr c48
               have c48b1 : (a0 != 85) = false := bne_eq_false_iff_eq.mpr c48
               clear c48
               obtain ⟨t377, A49, H⟩ := zbd H
               obtain rfl := Option.some.inj H
               have hnb50 := NB367_374.out
               have hnc50 := NB374_367.out
               obtain ⟨hcz51_0, hcz51_1, hcz51_2, hcz51_3, hfz51_0, hfz51_1, hfz51_2, hfz51_3⟩ := cz4 BK367.out
               go_wp2_with (first | ((with_reducible refine gate_callee (f := 108) rfl ?_); refine goesL_ (some 70) rfl rfl Tryd.func108 (by kernel_rfl) rfl #[.int .u64 a1_1, .int .u64 8] rfl za ?_; (with_reducible refine (polyglotref16_signed.calls a1_1 8 t377 _ A49.out).mono ?_); rintro e w' ⟨rfl, ⟨nd, rfl⟩⟩; refine ⟨_, rfl, ?_⟩))
               go_ret
               exact ⟨ze, zb⟩
              ·rw [if_neg c48] at H
               have c48b0 : (a0 == 85) = false := beq_eq_false_iff_ne.mpr c48
               have c48b1 : (a0 != 85) = true := bne_iff_ne.mpr c48
               obtain rfl := Option.some.inj H
               go_wp2
               go_ret
               exact ⟨ze, zb⟩
def polyglotref16_Put.T8 : Bool × List (List Nat × List Nat) := (true, [([], []), ([0], [0]), ([1], [1]), ([2], [2]), ([], []), ([4], [4]), ([3, 5], [3, 5]), ([], []), ([7], [7]), ([6, 8], [6, 8]), ([9, 6, 0, 1, 2, 3, 4, 5, 6, 7, 8, 9], [9]), ([10, 0, 1, 2, 3, 4, 5, 6, 7, 8, 9, 10], [])])
def polyglotref16_Put.B8 : List Nat := [0, 1, 3, 7, 0, 16, 63, 0, 128, 511, 1023, 2047]
theorem polyglotref16_Put.tab8 : rtab .any (opsOf Tryd.f44 8) = polyglotref16_Put.T8 := by kernel_rfl
theorem polyglotref16_Put.bits8 : waitsOk polyglotref16_Put.T8.2 polyglotref16_Put.B8 = true := by kernel_rfl
set_option maxHeartbeats 8000000 in
set_option maxRecDepth 100000 in
theorem polyglotref16_Put.calls (k : Nat) (a0 : Int) (a1_0 : Int) (a1_1 : Int) (a1_2 : ByteArray) (A1_3 : Option Addr) (c1_3 : Nat) (l1_3 : List (Vl)) (r1 : ByteArray) (r2 : Int) (w : World) (hr1_3 : Kd.C kV w A1_3 l1_3.length l1_3) (hc1_3 : l1_3.length ≤ c1_3) (h : polyglotref16_Put.f k a0 a1_0 a1_1 a1_2 l1_3 = some (r1, r2)) :
    Calls Tryd.prog 44 #[.int .i64 a0, .agg #[.int .i64 a1_0, .int .u64 a1_1, .string a1_2, .slice A1_3 l1_3.length c1_3]] w fun e w' => e = .returned (.tuple #[.string r1, .int .i64 r2]) ∧ Below w.heap.size w w' := by
  have hu25 := Tryd.underlying25
  have hu34 := Tryd.underlying34
  have HR1_3 := Aside0.mk hr1_3
  have HC1_3 := Aside0.mk hc1_3
  clear hr1_3 hc1_3
  have HB := Aside0.mk (Below.refl w.heap.size w)
  have H : ((polyglotref16_Check.f k a1_0 a1_1 a1_2 l1_3).bind fun t399 => (if t399 = 0 then ((polyglotref16_Fits.f k a0 a1_0 a1_1 a1_2 l1_3).bind fun t400 => (if t400 = true then ((polyglotref16_Of.f k a0).bind fun bt401 => (if bt401.2.2.2.1 = true then ((polyglotref16_Big.f k (IntKind.u64.wrap ((a1_2.size : Int))) bt401.2.2.1).bind fun t408 => (if t408.size + a1_2.size ≤ 9223372036854775807 then (some (t408 ++ a1_2, 0)) else (none))) else (if bt401.2.2.1 = 16 then (some (a1_2, 0)) else ((polyglotref16_Big.f k a1_1 bt401.2.2.1).bind fun t409 => (some (t409, 0)))))) else (some ((⟨#[]⟩ : ByteArray), 2)))) else (some ((⟨#[]⟩ : ByteArray), t399)))) = some (r1, r2) := h
  clear h
  obtain ⟨t399, A3, H⟩ := zbd H
  by_cases c4 : t399 = 0
  ·rw [if_pos c4] at H
   have c4b0 : (t399 == 0) = true := beq_iff_eq.mpr c4
   have c4b1 : (t399 != 0) = false := bne_eq_false_iff_eq.mpr c4
   clear c4
   obtain ⟨t400, A5, H⟩ := zbd H
   by_cases c6 : t400 = true
   ·subst c6
    replace H := zyes H
    obtain ⟨⟨t401, t402, t403, t404, t405, t406⟩, A7, H⟩ := zbd H
    dsimp only at H
    by_cases c8 : t404 = true
    ·subst c8
     replace H := zyes H
     obtain ⟨t408, A9, H⟩ := zbd H
     by_cases c10 : t408.size + a1_2.size ≤ 9223372036854775807
     ·rw [if_pos c10] at H
      have c10b0 := eq_true c10
      have c10b1 : decide (t408.size + a1_2.size ≤ 9223372036854775807) = true := decide_eq_true c10
      try have c10b2 : (9223372036854775807 < t408.size + a1_2.size) = False := eq_false (Nat.not_lt.2 c10)
      simp only [Option.some.injEq, Prod.mk.injEq] at H
      obtain ⟨rfl, rfl⟩ := H
      go_enter Tryd.func44, Tryd.ntmps44
      try go_wp2_with (first | ((with_reducible refine gate_dst (N := 3) rfl ?_); refine box_event rfl (N := 3) rfl (cs := #[.int .i64 a1_0, .int .u64 a1_1, .string a1_2, .slice A1_3 l1_3.length c1_3]) (t := 25) zh ?_; intro gb398 hg w11 hbox hb; have BK398 := Aside0.mk (hbox); have GW398 := Aside0.mk ((zge (w := w) hg)); have GE398 := Aside0.mk ((zge (w := w) hg)); replace HB := Aside0.mk (below_step zb hb); clear hb hbox hg; obtain ⟨hcz12_0, hcz12_1, hcz12_2, hcz12_3, hfz12_0, hfz12_1, hfz12_2, hfz12_3⟩ := cz4 BK398.out) | ((with_reducible refine gate_callee (f := 47) rfl ?_); refine goesL_ (some 10) rfl rfl Tryd.func47 (by kernel_rfl) rfl #[.agg #[.int .i64 a1_0, .int .u64 a1_1, .string a1_2, .slice A1_3 l1_3.length c1_3]] rfl za ?_; (with_reducible refine (polyglotref16_Check.calls k a1_0 a1_1 a1_2 _ _ l1_3 t399 _ ?side1 ?side2 A3.out).mono ?_); (case side1 => repeat (first | exact (Kd.C_below HR1_3.out HB.out) | (with_reducible refine Kd.C_alloc ?_ _) | (with_reducible refine Kd.C_drewN ?_ _) | (with_reducible refine Kd.C_drew ?_))); (case side2 => exact HC1_3.out); rintro e w13 ⟨rfl, hb⟩; refine ⟨_, rfl, ?_⟩; replace BK398 := Aside0.mk (zbb BK398.out hb); replace HB := Aside0.mk (below_step zb hb); (try clear hb); (try clear hb2); (try clear hk); (try clear hi); obtain ⟨hcz14_0, hcz14_1, hcz14_2, hcz14_3, hfz14_0, hfz14_1, hfz14_2, hfz14_3⟩ := cz4 BK398.out) | ((with_reducible refine gate_callee (f := 48) rfl ?_); refine goesL_ (some 16) rfl rfl Tryd.func48 (by kernel_rfl) rfl #[.int .i64 a0, .agg #[.int .i64 a1_0, .int .u64 a1_1, .string a1_2, .slice A1_3 l1_3.length c1_3]] rfl za ?_; (with_reducible refine (polyglotref16_Fits.calls k a0 a1_0 a1_1 a1_2 _ _ l1_3 true _ ?side1 ?side2 A5.out).mono ?_); (case side1 => repeat (first | exact (Kd.C_below HR1_3.out HB.out) | (with_reducible refine Kd.C_alloc ?_ _) | (with_reducible refine Kd.C_drewN ?_ _) | (with_reducible refine Kd.C_drew ?_))); (case side2 => exact HC1_3.out); rintro e w15 ⟨rfl, hb⟩; refine ⟨_, rfl, ?_⟩; replace BK398 := Aside0.mk (zbb BK398.out hb); replace HB := Aside0.mk (below_step zb hb); (try clear hb); (try clear hb2); (try clear hk); (try clear hi)) | ((with_reducible refine gate_callee (f := 40) rfl ?_); refine goesL_ (some 20) rfl rfl Tryd.func40 (by kernel_rfl) rfl #[.int .i64 a0] rfl za ?_; (with_reducible refine (polyglotref16_Of.calls k a0 t401 t402 t403 true t405 t406 _ A7.out).mono ?_); rintro e w16 ⟨rfl, hb⟩; refine ⟨_, rfl, ?_⟩; replace BK398 := Aside0.mk (zbb BK398.out hb); replace HB := Aside0.mk (below_step zb hb); (try clear hb); (try clear hb2); (try clear hk); (try clear hi)) | ((with_reducible refine gate_dst (N := 7) rfl ?_); refine box_event rfl (N := 7) rfl (cs := #[.int .i64 0, .int .i64 0, .int .i64 0, .bool false, .bool false]) (t := 34) zh ?_; intro gb407 hg w17 hbox hb; have BK407 := Aside0.mk (hbox); have GW407 := Aside0.mk ((zge (w := w) hg)); have GE407 := Aside0.mk ((zge (w := w) hg)); have NB398_407 := Aside0.mk ((znl BK398.out hg)); have NB407_398 := Aside0.mk ((zng BK398.out hg)); replace BK398 := Aside0.mk (zbb BK398.out hb); replace HB := Aside0.mk (below_step zb hb); clear hb hbox hg; have hnb18 := NB407_398.out; have hnc18 := NB398_407.out; obtain ⟨hcz19_0, hcz19_1, hcz19_2, hcz19_3, hcz19_4, hfz19_0, hfz19_1, hfz19_2, hfz19_3, hfz19_4⟩ := cz5 BK407.out))
      have n0_ : Aside0 ((((((w17.setCell ⟨gb407, 0, none⟩ (.int .i64 t401)).setCell ⟨gb407, 1, none⟩ (.int .i64 t402)).setCell ⟨gb407, 2, none⟩ (.int .i64 t403)).setCell ⟨gb407, 3, none⟩ (.bool true)).setCell ⟨gb407, 4, none⟩ (.bool t405)).heap[gb398]? = some (.cells #[.int .i64 a1_0, .int .u64 a1_1, .string a1_2, .slice A1_3 l1_3.length c1_3] 25 (0, 0))) := ⟨zk BK398.out⟩
      have n1_ : Aside0 ((((((w17.setCell ⟨gb407, 0, none⟩ (.int .i64 t401)).setCell ⟨gb407, 1, none⟩ (.int .i64 t402)).setCell ⟨gb407, 2, none⟩ (.int .i64 t403)).setCell ⟨gb407, 3, none⟩ (.bool true)).setCell ⟨gb407, 4, none⟩ (.bool t405)).heap[gb407]? = some (.cells #[.int .i64 t401, .int .i64 t402, .int .i64 t403, .bool true, .bool t405] 34 (0, 0))) := ⟨zp5 BK407.out _ _ _ _ _⟩
      have n2_ : Aside0 (Below w.heap.size w (((((w17.setCell ⟨gb407, 0, none⟩ (.int .i64 t401)).setCell ⟨gb407, 1, none⟩ (.int .i64 t402)).setCell ⟨gb407, 2, none⟩ (.int .i64 t403)).setCell ⟨gb407, 3, none⟩ (.bool true)).setCell ⟨gb407, 4, none⟩ (.bool t405))) := ⟨zb⟩
      (try clear BK398)
      (try clear BK407)
      (try clear HB)
      generalize (((((w17.setCell ⟨gb407, 0, none⟩ (.int .i64 t401)).setCell ⟨gb407, 1, none⟩ (.int .i64 t402)).setCell ⟨gb407, 2, none⟩ (.int .i64 t403)).setCell ⟨gb407, 3, none⟩ (.bool true)).setCell ⟨gb407, 4, none⟩ (.bool t405)) = w20 at n0_ n1_ n2_ ⊢
      have BK398 := n0_
      have BK407 := n1_
      have HB := n2_
      clear n0_ n1_ n2_
      have n0_ := Aside0.mk (blk_drew BK398.out)
      have n1_ := Aside0.mk (blk_drew BK407.out)
      have n2_ := Aside0.mk (below_drew1 HB.out)
      clear BK398
      clear BK407
      clear HB
      have BK398 := n0_
      have BK407 := n1_
      have HB := n2_
      clear n0_ n1_ n2_
      refine start_ (n := 12) (S := fun w' => w'.cell? ⟨gb398, 0, none⟩ = some (.int .i64 a1_0) ∧ w'.cell? ⟨gb398, 1, none⟩ = some (.int .u64 a1_1) ∧ w'.cell? ⟨gb398, 2, none⟩ = some (.string a1_2) ∧ w'.cell? ⟨gb398, 3, none⟩ = some (.slice A1_3 l1_3.length c1_3) ∧ w'.cell? ⟨gb407, 0, none⟩ = some (.int .i64 t401) ∧ w'.cell? ⟨gb407, 1, none⟩ = some (.int .i64 t402) ∧ w'.cell? ⟨gb407, 2, none⟩ = some (.int .i64 t403) ∧ w'.cell? ⟨gb407, 3, none⟩ = some (.bool true) ∧ w'.cell? ⟨gb407, 4, none⟩ = some (.bool t405)) (ds := []) (bm 12 0) (by kernel_rfl) rfl rfl ⟨(blk_cell BK398.out 0).trans rfl, (blk_cell BK398.out 1).trans rfl, (blk_cell BK398.out 2).trans rfl, (blk_cell BK398.out 3).trans rfl, (blk_cell BK407.out 0).trans rfl, (blk_cell BK407.out 1).trans rfl, (blk_cell BK407.out 2).trans rfl, (blk_cell BK407.out 3).trans rfl, (blk_cell BK407.out 4).trans rfl⟩ (fun hHeld => ?_); refine with_tabW polyglotref16_Put.tab8 polyglotref16_Put.bits8 (fun HT_ HW_ => ?_)
      generalize w20.drew = w21 at BK398 BK407 HB hHeld ⊢
      refine pu 0 (some 26) (bm 12 1) (h := ?_)
      refine pu 4 (some 30) (bm 12 17) (h := ?_)
      refine pu 7 (some 33) (bm 12 145) (h := ?_)
      refine tk 1 (some 27) (bm 12 147) hHeld (h := ?_)
      refine pu 2 (some 28) (bm 12 151) (h := ?_)
      refine pu 3 (some 29) (bm 12 159) (h := ?_)
      refine tk 5 (some 31) (bm 12 191) hHeld (h := ?_)
      refine tk 8 (some 34) (bm 12 447) hHeld (h := ?_)
      refine one_ (i := 6) (N := some 32) (bm 12 511) rfl rfl (one_of HT_.out (by kernel_rfl)) (by decide) (fun K hK => ?_)
      refine goes_ Tryd.func31 (by kernel_rfl) rfl #[.int .u64 (IntKind.u64.wrap ((a1_2.size : Int))), .int .i64 t403] (by rfl) rfl rfl za ?_
      with_reducible refine (polyglotref16_Big.calls k (IntKind.u64.wrap ((a1_2.size : Int))) t403 t408 _ A9.out).mono ?_
      rintro e w22 ⟨rfl, hb⟩
      refine ⟨_, rfl, ?_⟩
      have n0_ := Aside0.mk (zbb BK398.out hb)
      have n1_ := Aside0.mk (zbb BK407.out hb)
      have n2_ := Aside0.mk (below_step zb hb)
      clear BK398
      clear BK407
      clear HB
      have BK398 := n0_
      have BK407 := n1_
      have HB := n2_
      clear n0_ n1_ n2_
      (try clear hb)
      (try clear hb2)
      (try clear hk)
      (try clear hi)
      refine hK.out _ _ ⟨(blk_cell BK398.out 0).trans rfl, (blk_cell BK398.out 1).trans rfl, (blk_cell BK398.out 2).trans rfl, (blk_cell BK398.out 3).trans rfl, (blk_cell BK407.out 0).trans rfl, (blk_cell BK407.out 1).trans rfl, (blk_cell BK407.out 2).trans rfl, (blk_cell BK407.out 3).trans rfl, (blk_cell BK407.out 4).trans rfl⟩ (fun hHeld => ?_)
      clear hK K
      refine norm_ (a' := ?_) ?_ ?_
      rotate_left
      ·show Act.put _ (some 32) _ = _
       simp only [Act.put, List.setIfInBounds_toArray, List.set_cons_zero, List.set_cons_succ, i64_w, i32_w]
       rfl
      refine pu 9 (some 35) (bm 12 1023) (h := ?_)
      refine pu 10 (some 4) (bm 12 2047) (h := ?_)
      refine pu 11 (some 5) (bm 12 4095) (h := ?_)
      refine done_ (done_of HT_.out (by kernel_rfl)) ?_
      try go_wp2
      go_ret2
      exact ⟨ze, zb⟩
     ·rw [if_neg c10] at H
      exact absurd H (by simp)
    ·replace c8 := Bool.eq_false_iff.mpr c8
     subst c8
     replace H := zno H
     by_cases c23 : t403 = 16
     ·rw [if_pos c23] at H
      have c23b0 : (t403 == 16) = true := beq_iff_eq.mpr c23
      have c23b1 : (t403 != 16) = false := bne_eq_false_iff_eq.mpr c23
      clear c23
      simp only [Option.some.injEq, Prod.mk.injEq] at H
      obtain ⟨rfl, rfl⟩ := H
      go_enter Tryd.func44, Tryd.ntmps44
      go_wp2_with (first | ((with_reducible refine gate_dst (N := 3) rfl ?_); refine box_event rfl (N := 3) rfl (cs := #[.int .i64 a1_0, .int .u64 a1_1, .string a1_2, .slice A1_3 l1_3.length c1_3]) (t := 25) zh ?_; intro gb398 hg w24 hbox hb; have BK398 := Aside0.mk (hbox); have GW398 := Aside0.mk ((zge (w := w) hg)); have GE398 := Aside0.mk ((zge (w := w) hg)); replace HB := Aside0.mk (below_step zb hb); clear hb hbox hg; obtain ⟨hcz25_0, hcz25_1, hcz25_2, hcz25_3, hfz25_0, hfz25_1, hfz25_2, hfz25_3⟩ := cz4 BK398.out) | ((with_reducible refine gate_callee (f := 47) rfl ?_); refine goesL_ (some 10) rfl rfl Tryd.func47 (by kernel_rfl) rfl #[.agg #[.int .i64 a1_0, .int .u64 a1_1, .string a1_2, .slice A1_3 l1_3.length c1_3]] rfl za ?_; (with_reducible refine (polyglotref16_Check.calls k a1_0 a1_1 a1_2 _ _ l1_3 t399 _ ?side1 ?side2 A3.out).mono ?_); (case side1 => repeat (first | exact (Kd.C_below HR1_3.out HB.out) | (with_reducible refine Kd.C_alloc ?_ _) | (with_reducible refine Kd.C_drewN ?_ _) | (with_reducible refine Kd.C_drew ?_))); (case side2 => exact HC1_3.out); rintro e w26 ⟨rfl, hb⟩; refine ⟨_, rfl, ?_⟩; replace BK398 := Aside0.mk (zbb BK398.out hb); replace HB := Aside0.mk (below_step zb hb); (try clear hb); (try clear hb2); (try clear hk); (try clear hi); obtain ⟨hcz27_0, hcz27_1, hcz27_2, hcz27_3, hfz27_0, hfz27_1, hfz27_2, hfz27_3⟩ := cz4 BK398.out) | ((with_reducible refine gate_callee (f := 48) rfl ?_); refine goesL_ (some 16) rfl rfl Tryd.func48 (by kernel_rfl) rfl #[.int .i64 a0, .agg #[.int .i64 a1_0, .int .u64 a1_1, .string a1_2, .slice A1_3 l1_3.length c1_3]] rfl za ?_; (with_reducible refine (polyglotref16_Fits.calls k a0 a1_0 a1_1 a1_2 _ _ l1_3 true _ ?side1 ?side2 A5.out).mono ?_); (case side1 => repeat (first | exact (Kd.C_below HR1_3.out HB.out) | (with_reducible refine Kd.C_alloc ?_ _) | (with_reducible refine Kd.C_drewN ?_ _) | (with_reducible refine Kd.C_drew ?_))); (case side2 => exact HC1_3.out); rintro e w28 ⟨rfl, hb⟩; refine ⟨_, rfl, ?_⟩; replace BK398 := Aside0.mk (zbb BK398.out hb); replace HB := Aside0.mk (below_step zb hb); (try clear hb); (try clear hb2); (try clear hk); (try clear hi)) | ((with_reducible refine gate_callee (f := 40) rfl ?_); refine goesL_ (some 20) rfl rfl Tryd.func40 (by kernel_rfl) rfl #[.int .i64 a0] rfl za ?_; (with_reducible refine (polyglotref16_Of.calls k a0 t401 t402 t403 false t405 t406 _ A7.out).mono ?_); rintro e w29 ⟨rfl, hb⟩; refine ⟨_, rfl, ?_⟩; replace BK398 := Aside0.mk (zbb BK398.out hb); replace HB := Aside0.mk (below_step zb hb); (try clear hb); (try clear hb2); (try clear hk); (try clear hi)) | ((with_reducible refine gate_dst (N := 7) rfl ?_); refine box_event rfl (N := 7) rfl (cs := #[.int .i64 0, .int .i64 0, .int .i64 0, .bool false, .bool false]) (t := 34) zh ?_; intro gb407 hg w30 hbox hb; have BK407 := Aside0.mk (hbox); have GW407 := Aside0.mk ((zge (w := w) hg)); have GE407 := Aside0.mk ((zge (w := w) hg)); have NB398_407 := Aside0.mk ((znl BK398.out hg)); have NB407_398 := Aside0.mk ((zng BK398.out hg)); replace BK398 := Aside0.mk (zbb BK398.out hb); replace HB := Aside0.mk (below_step zb hb); clear hb hbox hg; have hnb31 := NB407_398.out; have hnc31 := NB398_407.out; obtain ⟨hcz32_0, hcz32_1, hcz32_2, hcz32_3, hcz32_4, hfz32_0, hfz32_1, hfz32_2, hfz32_3, hfz32_4⟩ := cz5 BK407.out; obtain ⟨hcz33_0, hcz33_1, hcz33_2, hcz33_3, hfz33_0, hfz33_1, hfz33_2, hfz33_3⟩ := cz4 BK398.out))
      go_ret2
      exact ⟨ze, zb⟩
     ·rw [if_neg c23] at H
      have c23b0 : (t403 == 16) = false := beq_eq_false_iff_ne.mpr c23
      have c23b1 : (t403 != 16) = true := bne_iff_ne.mpr c23
      obtain ⟨t409, A34, H⟩ := zbd H
      simp only [Option.some.injEq, Prod.mk.injEq] at H
      obtain ⟨rfl, rfl⟩ := H
      go_enter Tryd.func44, Tryd.ntmps44
      go_wp2_with (first | ((with_reducible refine gate_dst (N := 3) rfl ?_); refine box_event rfl (N := 3) rfl (cs := #[.int .i64 a1_0, .int .u64 a1_1, .string a1_2, .slice A1_3 l1_3.length c1_3]) (t := 25) zh ?_; intro gb398 hg w35 hbox hb; have BK398 := Aside0.mk (hbox); have GW398 := Aside0.mk ((zge (w := w) hg)); have GE398 := Aside0.mk ((zge (w := w) hg)); replace HB := Aside0.mk (below_step zb hb); clear hb hbox hg; obtain ⟨hcz36_0, hcz36_1, hcz36_2, hcz36_3, hfz36_0, hfz36_1, hfz36_2, hfz36_3⟩ := cz4 BK398.out) | ((with_reducible refine gate_callee (f := 47) rfl ?_); refine goesL_ (some 10) rfl rfl Tryd.func47 (by kernel_rfl) rfl #[.agg #[.int .i64 a1_0, .int .u64 a1_1, .string a1_2, .slice A1_3 l1_3.length c1_3]] rfl za ?_; (with_reducible refine (polyglotref16_Check.calls k a1_0 a1_1 a1_2 _ _ l1_3 t399 _ ?side1 ?side2 A3.out).mono ?_); (case side1 => repeat (first | exact (Kd.C_below HR1_3.out HB.out) | (with_reducible refine Kd.C_alloc ?_ _) | (with_reducible refine Kd.C_drewN ?_ _) | (with_reducible refine Kd.C_drew ?_))); (case side2 => exact HC1_3.out); rintro e w37 ⟨rfl, hb⟩; refine ⟨_, rfl, ?_⟩; replace BK398 := Aside0.mk (zbb BK398.out hb); replace HB := Aside0.mk (below_step zb hb); (try clear hb); (try clear hb2); (try clear hk); (try clear hi); obtain ⟨hcz38_0, hcz38_1, hcz38_2, hcz38_3, hfz38_0, hfz38_1, hfz38_2, hfz38_3⟩ := cz4 BK398.out) | ((with_reducible refine gate_callee (f := 48) rfl ?_); refine goesL_ (some 16) rfl rfl Tryd.func48 (by kernel_rfl) rfl #[.int .i64 a0, .agg #[.int .i64 a1_0, .int .u64 a1_1, .string a1_2, .slice A1_3 l1_3.length c1_3]] rfl za ?_; (with_reducible refine (polyglotref16_Fits.calls k a0 a1_0 a1_1 a1_2 _ _ l1_3 true _ ?side1 ?side2 A5.out).mono ?_); (case side1 => repeat (first | exact (Kd.C_below HR1_3.out HB.out) | (with_reducible refine Kd.C_alloc ?_ _) | (with_reducible refine Kd.C_drewN ?_ _) | (with_reducible refine Kd.C_drew ?_))); (case side2 => exact HC1_3.out); rintro e w39 ⟨rfl, hb⟩; refine ⟨_, rfl, ?_⟩; replace BK398 := Aside0.mk (zbb BK398.out hb); replace HB := Aside0.mk (below_step zb hb); (try clear hb); (try clear hb2); (try clear hk); (try clear hi)) | ((with_reducible refine gate_callee (f := 40) rfl ?_); refine goesL_ (some 20) rfl rfl Tryd.func40 (by kernel_rfl) rfl #[.int .i64 a0] rfl za ?_; (with_reducible refine (polyglotref16_Of.calls k a0 t401 t402 t403 false t405 t406 _ A7.out).mono ?_); rintro e w40 ⟨rfl, hb⟩; refine ⟨_, rfl, ?_⟩; replace BK398 := Aside0.mk (zbb BK398.out hb); replace HB := Aside0.mk (below_step zb hb); (try clear hb); (try clear hb2); (try clear hk); (try clear hi)) | ((with_reducible refine gate_dst (N := 7) rfl ?_); refine box_event rfl (N := 7) rfl (cs := #[.int .i64 0, .int .i64 0, .int .i64 0, .bool false, .bool false]) (t := 34) zh ?_; intro gb407 hg w41 hbox hb; have BK407 := Aside0.mk (hbox); have GW407 := Aside0.mk ((zge (w := w) hg)); have GE407 := Aside0.mk ((zge (w := w) hg)); have NB398_407 := Aside0.mk ((znl BK398.out hg)); have NB407_398 := Aside0.mk ((zng BK398.out hg)); replace BK398 := Aside0.mk (zbb BK398.out hb); replace HB := Aside0.mk (below_step zb hb); clear hb hbox hg; have hnb42 := NB407_398.out; have hnc42 := NB398_407.out; obtain ⟨hcz43_0, hcz43_1, hcz43_2, hcz43_3, hcz43_4, hfz43_0, hfz43_1, hfz43_2, hfz43_3, hfz43_4⟩ := cz5 BK407.out; obtain ⟨hcz44_0, hcz44_1, hcz44_2, hcz44_3, hfz44_0, hfz44_1, hfz44_2, hfz44_3⟩ := cz4 BK398.out) | ((with_reducible refine gate_callee (f := 31) rfl ?_); refine goesL_ (some 46) rfl rfl Tryd.func31 (by kernel_rfl) rfl #[.int .u64 a1_1, .int .i64 t403] rfl za ?_; (with_reducible refine (polyglotref16_Big.calls k a1_1 t403 t409 _ A34.out).mono ?_); rintro e w45 ⟨rfl, hb⟩; refine ⟨_, rfl, ?_⟩; replace BK398 := Aside0.mk (zbb BK398.out hb); replace BK407 := Aside0.mk (blk_below (g := gb407) (o := .cells #[.int .i64 t401, .int .i64 t402, .int .i64 t403, .bool false, .bool t405] 34 (0, 0)) (zp5 BK407.out _ _ _ _ _) hb); replace HB := Aside0.mk (below_step zb hb); (try clear hb); (try clear hb2); (try clear hk); (try clear hi)))
      go_ret2
      exact ⟨ze, zb⟩
   ·replace c6 := Bool.eq_false_iff.mpr c6
    subst c6
    replace H := zno H
    simp only [Option.some.injEq, Prod.mk.injEq] at H
    obtain ⟨rfl, rfl⟩ := H
    go_enter Tryd.func44, Tryd.ntmps44
    go_wp2_with (first | ((with_reducible refine gate_dst (N := 3) rfl ?_); refine box_event rfl (N := 3) rfl (cs := #[.int .i64 a1_0, .int .u64 a1_1, .string a1_2, .slice A1_3 l1_3.length c1_3]) (t := 25) zh ?_; intro gb398 hg w46 hbox hb; have BK398 := Aside0.mk (hbox); have GW398 := Aside0.mk ((zge (w := w) hg)); have GE398 := Aside0.mk ((zge (w := w) hg)); replace HB := Aside0.mk (below_step zb hb); clear hb hbox hg; obtain ⟨hcz47_0, hcz47_1, hcz47_2, hcz47_3, hfz47_0, hfz47_1, hfz47_2, hfz47_3⟩ := cz4 BK398.out) | ((with_reducible refine gate_callee (f := 47) rfl ?_); refine goesL_ (some 10) rfl rfl Tryd.func47 (by kernel_rfl) rfl #[.agg #[.int .i64 a1_0, .int .u64 a1_1, .string a1_2, .slice A1_3 l1_3.length c1_3]] rfl za ?_; (with_reducible refine (polyglotref16_Check.calls k a1_0 a1_1 a1_2 _ _ l1_3 t399 _ ?side1 ?side2 A3.out).mono ?_); (case side1 => repeat (first | exact (Kd.C_below HR1_3.out HB.out) | (with_reducible refine Kd.C_alloc ?_ _) | (with_reducible refine Kd.C_drewN ?_ _) | (with_reducible refine Kd.C_drew ?_))); (case side2 => exact HC1_3.out); rintro e w48 ⟨rfl, hb⟩; refine ⟨_, rfl, ?_⟩; replace BK398 := Aside0.mk (zbb BK398.out hb); replace HB := Aside0.mk (below_step zb hb); (try clear hb); (try clear hb2); (try clear hk); (try clear hi); obtain ⟨hcz49_0, hcz49_1, hcz49_2, hcz49_3, hfz49_0, hfz49_1, hfz49_2, hfz49_3⟩ := cz4 BK398.out) | ((with_reducible refine gate_callee (f := 48) rfl ?_); refine goesL_ (some 16) rfl rfl Tryd.func48 (by kernel_rfl) rfl #[.int .i64 a0, .agg #[.int .i64 a1_0, .int .u64 a1_1, .string a1_2, .slice A1_3 l1_3.length c1_3]] rfl za ?_; (with_reducible refine (polyglotref16_Fits.calls k a0 a1_0 a1_1 a1_2 _ _ l1_3 false _ ?side1 ?side2 A5.out).mono ?_); (case side1 => repeat (first | exact (Kd.C_below HR1_3.out HB.out) | (with_reducible refine Kd.C_alloc ?_ _) | (with_reducible refine Kd.C_drewN ?_ _) | (with_reducible refine Kd.C_drew ?_))); (case side2 => exact HC1_3.out); rintro e w50 ⟨rfl, hb⟩; refine ⟨_, rfl, ?_⟩; replace BK398 := Aside0.mk (zbb BK398.out hb); replace HB := Aside0.mk (below_step zb hb); (try clear hb); (try clear hb2); (try clear hk); (try clear hi)))
    go_ret2
    exact ⟨ze, zb⟩
  ·rw [if_neg c4] at H
   have c4b0 : (t399 == 0) = false := beq_eq_false_iff_ne.mpr c4
   have c4b1 : (t399 != 0) = true := bne_iff_ne.mpr c4
   simp only [Option.some.injEq, Prod.mk.injEq] at H
   obtain ⟨rfl, rfl⟩ := H
   go_enter Tryd.func44, Tryd.ntmps44
   go_wp2_with (first | ((with_reducible refine gate_dst (N := 3) rfl ?_); refine box_event rfl (N := 3) rfl (cs := #[.int .i64 a1_0, .int .u64 a1_1, .string a1_2, .slice A1_3 l1_3.length c1_3]) (t := 25) zh ?_; intro gb398 hg w51 hbox hb; have BK398 := Aside0.mk (hbox); have GW398 := Aside0.mk ((zge (w := w) hg)); have GE398 := Aside0.mk ((zge (w := w) hg)); replace HB := Aside0.mk (below_step zb hb); clear hb hbox hg; obtain ⟨hcz52_0, hcz52_1, hcz52_2, hcz52_3, hfz52_0, hfz52_1, hfz52_2, hfz52_3⟩ := cz4 BK398.out) | ((with_reducible refine gate_callee (f := 47) rfl ?_); refine goesL_ (some 10) rfl rfl Tryd.func47 (by kernel_rfl) rfl #[.agg #[.int .i64 a1_0, .int .u64 a1_1, .string a1_2, .slice A1_3 l1_3.length c1_3]] rfl za ?_; (with_reducible refine (polyglotref16_Check.calls k a1_0 a1_1 a1_2 _ _ l1_3 t399 _ ?side1 ?side2 A3.out).mono ?_); (case side1 => repeat (first | exact (Kd.C_below HR1_3.out HB.out) | (with_reducible refine Kd.C_alloc ?_ _) | (with_reducible refine Kd.C_drewN ?_ _) | (with_reducible refine Kd.C_drew ?_))); (case side2 => exact HC1_3.out); rintro e w53 ⟨rfl, hb⟩; refine ⟨_, rfl, ?_⟩; replace BK398 := Aside0.mk (zbb BK398.out hb); replace HB := Aside0.mk (below_step zb hb); (try clear hb); (try clear hb2); (try clear hk); (try clear hi)))
   go_ret2
   exact ⟨ze, zb⟩
set_option maxHeartbeats 8000000 in
set_option maxRecDepth 100000 in
theorem polyglotref16_Least.calls (k : Nat) (a0_0 : Int) (a0_1 : Int) (a0_2 : ByteArray) (A0_3 : Option Addr) (c0_3 : Nat) (l0_3 : List (Vl)) (r1 : Int) (r2 : Int) (w : World) (hr0_3 : Kd.C kV w A0_3 l0_3.length l0_3) (hc0_3 : l0_3.length ≤ c0_3) (h : polyglotref16_Least.f k a0_0 a0_1 a0_2 l0_3 = some (r1, r2)) :
    Calls Tryd.prog 43 #[.agg #[.int .i64 a0_0, .int .u64 a0_1, .string a0_2, .slice A0_3 l0_3.length c0_3]] w fun e w' => e = .returned (.tuple #[.int .i64 r1, .int .i64 r2]) ∧ Below w.heap.size w w' := by
  have hu25 := Tryd.underlying25
  have HR0_3 := Aside0.mk hr0_3
  have HC0_3 := Aside0.mk hc0_3
  clear hr0_3 hc0_3
  have HB := Aside0.mk (Below.refl w.heap.size w)
  have H : ((polyglotref16_Check.f k a0_0 a0_1 a0_2 l0_3).bind fun t907 => (if t907 = 0 then ((polyglotref16_Codes.f k a0_0).bind fun t908 => (polyglotref16_Least.l0 k t908 0 a0_0 a0_1 a0_2 l0_3)) else (some (0, t907)))) = some (r1, r2) := h
  clear h
  obtain ⟨t907, A2, H⟩ := zbd H
  by_cases c3 : t907 = 0
  ·rw [if_pos c3] at H
   have c3b0 : (t907 == 0) = true := beq_iff_eq.mpr c3
   have c3b1 : (t907 != 0) = false := bne_eq_false_iff_eq.mpr c3
   clear c3
   obtain ⟨t908, A4, H⟩ := zbd H
   have H' := Aside0.mk H
   clear H
   go_enter Tryd.func43, Tryd.ntmps43
   go_wp2_with (first | ((with_reducible refine gate_dst (N := 1) rfl ?_); refine box_event rfl (N := 1) rfl (cs := #[.int .i64 a0_0, .int .u64 a0_1, .string a0_2, .slice A0_3 l0_3.length c0_3]) (t := 25) zh ?_; intro gb906 hg w5 hbox hb; have BK906 := Aside0.mk (hbox); have GW906 := Aside0.mk ((zge (w := w) hg)); have GE906 := Aside0.mk ((zge (w := w) hg)); replace HB := Aside0.mk (below_step zb hb); clear hb hbox hg; obtain ⟨hcz6_0, hcz6_1, hcz6_2, hcz6_3, hfz6_0, hfz6_1, hfz6_2, hfz6_3⟩ := cz4 BK906.out) | ((with_reducible refine gate_callee (f := 47) rfl ?_); refine goesL_ (some 8) rfl rfl Tryd.func47 (by kernel_rfl) rfl #[.agg #[.int .i64 a0_0, .int .u64 a0_1, .string a0_2, .slice A0_3 l0_3.length c0_3]] rfl za ?_; (with_reducible refine (polyglotref16_Check.calls k a0_0 a0_1 a0_2 _ _ l0_3 t907 _ ?side1 ?side2 A2.out).mono ?_); (case side1 => repeat (first | exact (Kd.C_below HR0_3.out HB.out) | (with_reducible refine Kd.C_alloc ?_ _) | (with_reducible refine Kd.C_drewN ?_ _) | (with_reducible refine Kd.C_drew ?_))); (case side2 => exact HC0_3.out); rintro e w7 ⟨rfl, hb⟩; refine ⟨_, rfl, ?_⟩; replace BK906 := Aside0.mk (zbb BK906.out hb); replace HB := Aside0.mk (below_step zb hb); (try clear hb); (try clear hb2); (try clear hk); (try clear hi); obtain ⟨hcz8_0, hcz8_1, hcz8_2, hcz8_3, hfz8_0, hfz8_1, hfz8_2, hfz8_3⟩ := cz4 BK906.out) | ((with_reducible refine gate_callee (f := 46) rfl ?_); refine goesL_ (some 14) rfl rfl Tryd.func46 (by kernel_rfl) rfl #[.int .i64 a0_0] rfl za ?_; (with_reducible refine (polyglotref16_Codes.calls k a0_0 t908 _ A4.out).mono ?_); rintro e w9 ⟨v909, rfl, ho0, hb⟩; refine ⟨_, rfl, ?_⟩; have HO910 := Aside0.mk (Kd.R_lower ho0 (below_size zb)); replace BK906 := Aside0.mk (zbb BK906.out hb); replace HB := Aside0.mk (below_step zb hb); (try clear hb); (try clear hb2); (try clear hk); (try clear hi); (try clear ho0)))
   go_loopg [6] k (fun kq v6 w' => ∃ (x6_1 : Int), v6 = .int .i64 x6_1 ∧ Aside0 (polyglotref16_Least.l0 kq t908 x6_1 a0_0 a0_1 a0_2 l0_3 = some (r1, r2)) ∧ Aside0 (kq ≤ k) ∧ Aside0 (Kd.R (Kd.int .i64) 3 w' w.heap.size (fun _ => True) v909 t908) ∧ Aside0 (w'.heap[gb906]? = some (.cells #[.int .i64 a0_0, .int .u64 a0_1, .string a0_2, (.slice A0_3 l0_3.length c0_3)] 25 (0, 0))) ∧ Aside0 (Below w.heap.size w w'))
   case atStart => exact ⟨(0), zt, H', ⟨Nat.le_refl _⟩, ⟨zr HO910.out⟩, ⟨zk BK906.out⟩, ⟨zb⟩⟩
   case round =>
    clear H'
    try clear c3
    try clear c3b0
    try clear c3b1
    try clear hcz6_0
    try clear hcz6_1
    try clear hcz6_2
    try clear hcz6_3
    try clear hcz8_0
    try clear hcz8_1
    try clear hcz8_2
    try clear hcz8_3
    try clear hfz6_0
    try clear hfz6_1
    try clear hfz6_2
    try clear hfz6_3
    try clear hfz8_0
    try clear hfz8_1
    try clear hfz8_2
    try clear hfz8_3
    obtain ⟨x6_1, rfl, HA, HK1, HO_5, BK906, HB⟩ := hrel
    cases gk with
    | zero => exact absurd HA.out (by simp [polyglotref16_Least.l0])
    | succ k1 =>
     have H := HA.out
     clear HA
     simp only [polyglotref16_Least.l0] at H
     by_cases c10 : x6_1 < (t908.length : Int)
     ·rw [if_pos c10] at H
      have c10b0 : decide (x6_1 < (t908.length : Int)) = true := decide_eq_true c10
      clear c10
      by_cases c11 : 0 ≤ x6_1
      ·rw [if_pos c11] at H
       have c11b0 : decide (0 ≤ x6_1) = true := decide_eq_true c11
       clear c11
       obtain ⟨t912, A12, H⟩ := zbd H
       by_cases c13 : t912 = true
       ·subst c13
        replace H := zyes H
        simp only [Option.some.injEq, Prod.mk.injEq] at H
        obtain ⟨rfl, rfl⟩ := H
        obtain ⟨Ao14, co14, eo14⟩ := Kd.R_slice HO_5.out
        subst eo14
        try go_wp2
        have n0_ := Aside0.mk (Kd.R_drew HO_5.out)
        have n1_ := Aside0.mk (blk_drew BK906.out)
        have n2_ := Aside0.mk (below_drew1 HB.out)
        clear HO_5
        clear BK906
        clear HB
        have HO_5 := n0_
        have BK906 := n1_
        have HB := n2_
        clear n0_ n1_ n2_
        have p911 : 0 ≤ (x6_1 : Int) := of_decide_eq_true (by first | (with_reducible assumption) | assumption)
        have q911 : x6_1 < (t908.length : Int) := of_decide_eq_true (by first | (with_reducible assumption) | assumption)
        obtain ⟨ad911, e911, hx911_0⟩ := Kd.at_int (Kd.R_reads' HO_5.out).2.2 x6_1 p911 q911
        cases e911
        replace p911 := eq_true p911
        replace q911 := eq_true q911
        refine start_ (n := 6) (S := fun w' => w'.cell? ⟨gb906, 0, none⟩ = some (.int .i64 a0_0) ∧ w'.cell? ⟨gb906, 1, none⟩ = some (.int .u64 a0_1) ∧ w'.cell? ⟨gb906, 2, none⟩ = some (.string a0_2) ∧ w'.cell? ⟨gb906, 3, none⟩ = some (.slice A0_3 l0_3.length c0_3) ∧ w'.cell? (ad911.add (x6_1).toNat) = some (.int .i64 (rd t908 x6_1))) (ds := []) #[false, false, false, false, false, false] (by kernel_rfl) rfl rfl ⟨(blk_cell BK906.out 0).trans rfl, (blk_cell BK906.out 1).trans rfl, (blk_cell BK906.out 2).trans rfl, (blk_cell BK906.out 3).trans rfl, hx911_0⟩ (fun hHeld => ?_)
        generalize wr.drew = w15 at HO_5 BK906 HB hx911_0 hHeld ⊢
        refine pure_ (i := 0) (N := some 21) (v := ?_) (a' := ?_) #[true, false, false, false, false, false] rfl rfl (by kernel_rfl) (fun _ _ _ h => h) (Or.inl ⟨by rfl, ?_⟩) ?_ ?_
        rotate_left
        ·intro w'
         go_simp
         with_reducible rfl
        rotate_left
        ·simp only [Act.put, List.setIfInBounds_toArray, List.set_cons_zero, List.set_cons_succ, i64_w, i32_w]
         rfl
        refine pure_ (i := 1) (N := some 22) (v := ?_) (a' := ?_) #[true, true, false, false, false, false] rfl rfl (by kernel_rfl) (fun _ _ _ h => h) (Or.inl ⟨by rfl, ?_⟩) ?_ ?_
        rotate_left
        ·intro w'
         go_simp
         with_reducible rfl
        rotate_left
        ·simp only [Act.put, List.setIfInBounds_toArray, List.set_cons_zero, List.set_cons_succ, i64_w, i32_w]
         rfl
        refine pure_ (i := 2) (N := some 23) (v := ?_) (a' := ?_) #[true, true, true, false, false, false] rfl rfl (by kernel_rfl) (fun _ _ _ h => h) (Or.inl ⟨by rfl, ?_⟩) ?_ ?_
        rotate_left
        ·intro w'
         go_simp
         with_reducible rfl
        rotate_left
        ·simp only [Act.put, List.setIfInBounds_toArray, List.set_cons_zero, List.set_cons_succ, i64_w, i32_w]
         rfl
        refine take_ (i := 3) (N := some 24) (v := ?_) (a' := ?_) #[true, true, true, true, false, false] rfl rfl (by kernel_rfl) (fun _ _ _ h => h) (Or.inl ⟨by rfl, ?_⟩) hHeld ?_ ?_
        rotate_left
        ·rintro w' ⟨s0, s1, s2, s3, s4⟩
         go_simp
         with_reducible rfl
        rotate_left
        ·simp only [Act.put, List.setIfInBounds_toArray, List.set_cons_zero, List.set_cons_succ, i64_w, i32_w]
         rfl
        refine take_ (i := 4) (N := some 25) (v := ?_) (a' := ?_) #[true, true, true, true, true, false] rfl rfl (by kernel_rfl) (fun _ _ _ h => h) (Or.inl ⟨by rfl, ?_⟩) hHeld ?_ ?_
        rotate_left
        ·rintro w' ⟨s0, s1, s2, s3, s4⟩
         go_simp
         with_reducible rfl
        rotate_left
        ·simp only [Act.put, List.setIfInBounds_toArray, List.set_cons_zero, List.set_cons_succ, i64_w, i32_w]
         rfl
        refine one_ (i := 5) (N := some 26) #[true, true, true, true, true, true] rfl rfl (by kernel_rfl) (by decide) (fun K hK => ?_)
        refine goes_ Tryd.func48 (by kernel_rfl) rfl #[.int .i64 (rd t908 x6_1), .agg #[.int .i64 a0_0, .int .u64 a0_1, .string a0_2, .slice A0_3 l0_3.length c0_3]] (by rfl) rfl rfl za ?_
        with_reducible refine (polyglotref16_Fits.calls k1 (rd t908 x6_1) a0_0 a0_1 a0_2 _ _ l0_3 true _ ?side1 ?side2 A12.out).mono ?_
        (case side1 => repeat (first | exact (Kd.C_below HR0_3.out HB.out) | (with_reducible refine Kd.C_alloc ?_ _) | (with_reducible refine Kd.C_drewN ?_ _) | (with_reducible refine Kd.C_drew ?_)))
        (case side2 => exact HC0_3.out)
        rintro e w16 ⟨rfl, hb⟩
        have HS4_ := (hb.cell (World.block_lt_of_cell? _ _ (hHeld.2.2.2.2))).trans (hHeld.2.2.2.2)
        refine ⟨_, rfl, ?_⟩
        have n0_ := Aside0.mk (Kd.R_below (zr HO_5.out) hb)
        have n1_ := Aside0.mk (zbb BK906.out hb)
        have n2_ := Aside0.mk (below_step zb hb)
        clear HO_5
        clear BK906
        clear HB
        have HO_5 := n0_
        have BK906 := n1_
        have HB := n2_
        clear n0_ n1_ n2_
        (try clear hb)
        (try clear hb2)
        (try clear hk)
        (try clear hi)
        refine hK.out _ _ ⟨(blk_cell BK906.out 0).trans rfl, (blk_cell BK906.out 1).trans rfl, (blk_cell BK906.out 2).trans rfl, (blk_cell BK906.out 3).trans rfl, HS4_⟩ (fun hHeld => ?_)
        clear hK K
        refine norm_ (a' := ?_) ?_ ?_
        rotate_left
        ·show Act.put _ (some 26) _ = _
         simp only [Act.put, List.setIfInBounds_toArray, List.set_cons_zero, List.set_cons_succ, i64_w, i32_w]
         rfl
        refine done_ (by kernel_rfl) ?_
        have p913 : 0 ≤ (x6_1 : Int) := of_decide_eq_true (by first | (with_reducible assumption) | assumption)
        have q913 : x6_1 < (t908.length : Int) := of_decide_eq_true (by first | (with_reducible assumption) | assumption)
        obtain ⟨ad913, e913, hx913_0⟩ := Kd.at_int (Kd.R_reads' HO_5.out).2.2 x6_1 p913 q913
        obtain rfl : ad911 = ad913 := (by injection e913)
        replace p913 := eq_true p913
        replace q913 := eq_true q913
        try go_wp2
        go_ret2
        exact ⟨ze, zb⟩
       ·replace c13 := Bool.eq_false_iff.mpr c13
        subst c13
        replace H := zno H
        have H' := Aside0.mk H
        clear H
        obtain ⟨Ao17, co17, eo17⟩ := Kd.R_slice HO_5.out
        subst eo17
        try go_wp2
        have n0_ := Aside0.mk (Kd.R_drew HO_5.out)
        have n1_ := Aside0.mk (blk_drew BK906.out)
        have n2_ := Aside0.mk (below_drew1 HB.out)
        clear HO_5
        clear BK906
        clear HB
        have HO_5 := n0_
        have BK906 := n1_
        have HB := n2_
        clear n0_ n1_ n2_
        have p911 : 0 ≤ (x6_1 : Int) := of_decide_eq_true (by first | (with_reducible assumption) | assumption)
        have q911 : x6_1 < (t908.length : Int) := of_decide_eq_true (by first | (with_reducible assumption) | assumption)
        obtain ⟨ad911, e911, hx911_0⟩ := Kd.at_int (Kd.R_reads' HO_5.out).2.2 x6_1 p911 q911
        cases e911
        replace p911 := eq_true p911
        replace q911 := eq_true q911
        refine start_ (n := 6) (S := fun w' => w'.cell? ⟨gb906, 0, none⟩ = some (.int .i64 a0_0) ∧ w'.cell? ⟨gb906, 1, none⟩ = some (.int .u64 a0_1) ∧ w'.cell? ⟨gb906, 2, none⟩ = some (.string a0_2) ∧ w'.cell? ⟨gb906, 3, none⟩ = some (.slice A0_3 l0_3.length c0_3) ∧ w'.cell? (ad911.add (x6_1).toNat) = some (.int .i64 (rd t908 x6_1))) (ds := []) #[false, false, false, false, false, false] (by kernel_rfl) rfl rfl ⟨(blk_cell BK906.out 0).trans rfl, (blk_cell BK906.out 1).trans rfl, (blk_cell BK906.out 2).trans rfl, (blk_cell BK906.out 3).trans rfl, hx911_0⟩ (fun hHeld => ?_)
        generalize wr.drew = w18 at HO_5 BK906 HB hx911_0 hHeld ⊢
        refine pure_ (i := 0) (N := some 21) (v := ?_) (a' := ?_) #[true, false, false, false, false, false] rfl rfl (by kernel_rfl) (fun _ _ _ h => h) (Or.inl ⟨by rfl, ?_⟩) ?_ ?_
        rotate_left
        ·intro w'
         go_simp
         with_reducible rfl
        rotate_left
        ·simp only [Act.put, List.setIfInBounds_toArray, List.set_cons_zero, List.set_cons_succ, i64_w, i32_w]
         rfl
        refine pure_ (i := 1) (N := some 22) (v := ?_) (a' := ?_) #[true, true, false, false, false, false] rfl rfl (by kernel_rfl) (fun _ _ _ h => h) (Or.inl ⟨by rfl, ?_⟩) ?_ ?_
        rotate_left
        ·intro w'
         go_simp
         with_reducible rfl
        rotate_left
        ·simp only [Act.put, List.setIfInBounds_toArray, List.set_cons_zero, List.set_cons_succ, i64_w, i32_w]
         rfl
        refine pure_ (i := 2) (N := some 23) (v := ?_) (a' := ?_) #[true, true, true, false, false, false] rfl rfl (by kernel_rfl) (fun _ _ _ h => h) (Or.inl ⟨by rfl, ?_⟩) ?_ ?_
        rotate_left
        ·intro w'
         go_simp
         with_reducible rfl
        rotate_left
        ·simp only [Act.put, List.setIfInBounds_toArray, List.set_cons_zero, List.set_cons_succ, i64_w, i32_w]
         rfl
        refine take_ (i := 3) (N := some 24) (v := ?_) (a' := ?_) #[true, true, true, true, false, false] rfl rfl (by kernel_rfl) (fun _ _ _ h => h) (Or.inl ⟨by rfl, ?_⟩) hHeld ?_ ?_
        rotate_left
        ·rintro w' ⟨s0, s1, s2, s3, s4⟩
         go_simp
         with_reducible rfl
        rotate_left
        ·simp only [Act.put, List.setIfInBounds_toArray, List.set_cons_zero, List.set_cons_succ, i64_w, i32_w]
         rfl
        refine take_ (i := 4) (N := some 25) (v := ?_) (a' := ?_) #[true, true, true, true, true, false] rfl rfl (by kernel_rfl) (fun _ _ _ h => h) (Or.inl ⟨by rfl, ?_⟩) hHeld ?_ ?_
        rotate_left
        ·rintro w' ⟨s0, s1, s2, s3, s4⟩
         go_simp
         with_reducible rfl
        rotate_left
        ·simp only [Act.put, List.setIfInBounds_toArray, List.set_cons_zero, List.set_cons_succ, i64_w, i32_w]
         rfl
        refine one_ (i := 5) (N := some 26) #[true, true, true, true, true, true] rfl rfl (by kernel_rfl) (by decide) (fun K hK => ?_)
        refine goes_ Tryd.func48 (by kernel_rfl) rfl #[.int .i64 (rd t908 x6_1), .agg #[.int .i64 a0_0, .int .u64 a0_1, .string a0_2, .slice A0_3 l0_3.length c0_3]] (by rfl) rfl rfl za ?_
        with_reducible refine (polyglotref16_Fits.calls k1 (rd t908 x6_1) a0_0 a0_1 a0_2 _ _ l0_3 false _ ?side1 ?side2 A12.out).mono ?_
        (case side1 => repeat (first | exact (Kd.C_below HR0_3.out HB.out) | (with_reducible refine Kd.C_alloc ?_ _) | (with_reducible refine Kd.C_drewN ?_ _) | (with_reducible refine Kd.C_drew ?_)))
        (case side2 => exact HC0_3.out)
        rintro e w19 ⟨rfl, hb⟩
        have HS4_ := (hb.cell (World.block_lt_of_cell? _ _ (hHeld.2.2.2.2))).trans (hHeld.2.2.2.2)
        refine ⟨_, rfl, ?_⟩
        have n0_ := Aside0.mk (Kd.R_below (zr HO_5.out) hb)
        have n1_ := Aside0.mk (zbb BK906.out hb)
        have n2_ := Aside0.mk (below_step zb hb)
        clear HO_5
        clear BK906
        clear HB
        have HO_5 := n0_
        have BK906 := n1_
        have HB := n2_
        clear n0_ n1_ n2_
        (try clear hb)
        (try clear hb2)
        (try clear hk)
        (try clear hi)
        refine hK.out _ _ ⟨(blk_cell BK906.out 0).trans rfl, (blk_cell BK906.out 1).trans rfl, (blk_cell BK906.out 2).trans rfl, (blk_cell BK906.out 3).trans rfl, HS4_⟩ (fun hHeld => ?_)
        clear hK K
        refine norm_ (a' := ?_) ?_ ?_
        rotate_left
        ·show Act.put _ (some 26) _ = _
         simp only [Act.put, List.setIfInBounds_toArray, List.set_cons_zero, List.set_cons_succ, i64_w, i32_w]
         rfl
        refine done_ (by kernel_rfl) ?_
        try go_wp2
        go_roundg k1
        case measure => have := HK1.out; omega
        case rel => exact ⟨(wrap64 (x6_1 + 1)), zt, H', ⟨by have := HK1.out; omega⟩, ⟨zr HO_5.out⟩, ⟨zk BK906.out⟩, ⟨zb⟩⟩
      ·rw [if_neg c11] at H
       exact absurd H (by simp)
     ·rw [if_neg c10] at H
      have c10b0 : decide (x6_1 < (t908.length : Int)) = false := decide_eq_false c10
      clear c10
      simp only [Option.some.injEq, Prod.mk.injEq] at H
      obtain ⟨rfl, rfl⟩ := H
      obtain ⟨Ao20, co20, eo20⟩ := Kd.R_slice HO_5.out
      subst eo20
      go_wp2
      go_ret2
      exact ⟨ze, zb⟩
  ·rw [if_neg c3] at H
   have c3b0 : (t907 == 0) = false := beq_eq_false_iff_ne.mpr c3
   have c3b1 : (t907 != 0) = true := bne_iff_ne.mpr c3
   simp only [Option.some.injEq, Prod.mk.injEq] at H
   obtain ⟨rfl, rfl⟩ := H
   go_enter Tryd.func43, Tryd.ntmps43
   go_wp2_with (first | ((with_reducible refine gate_dst (N := 1) rfl ?_); refine box_event rfl (N := 1) rfl (cs := #[.int .i64 a0_0, .int .u64 a0_1, .string a0_2, .slice A0_3 l0_3.length c0_3]) (t := 25) zh ?_; intro gb906 hg w21 hbox hb; have BK906 := Aside0.mk (hbox); have GW906 := Aside0.mk ((zge (w := w) hg)); have GE906 := Aside0.mk ((zge (w := w) hg)); replace HB := Aside0.mk (below_step zb hb); clear hb hbox hg; obtain ⟨hcz22_0, hcz22_1, hcz22_2, hcz22_3, hfz22_0, hfz22_1, hfz22_2, hfz22_3⟩ := cz4 BK906.out) | ((with_reducible refine gate_callee (f := 47) rfl ?_); refine goesL_ (some 8) rfl rfl Tryd.func47 (by kernel_rfl) rfl #[.agg #[.int .i64 a0_0, .int .u64 a0_1, .string a0_2, .slice A0_3 l0_3.length c0_3]] rfl za ?_; (with_reducible refine (polyglotref16_Check.calls k a0_0 a0_1 a0_2 _ _ l0_3 t907 _ ?side1 ?side2 A2.out).mono ?_); (case side1 => repeat (first | exact (Kd.C_below HR0_3.out HB.out) | (with_reducible refine Kd.C_alloc ?_ _) | (with_reducible refine Kd.C_drewN ?_ _) | (with_reducible refine Kd.C_drew ?_))); (case side2 => exact HC0_3.out); rintro e w23 ⟨rfl, hb⟩; refine ⟨_, rfl, ?_⟩; replace BK906 := Aside0.mk (zbb BK906.out hb); replace HB := Aside0.mk (below_step zb hb); (try clear hb); (try clear hb2); (try clear hk); (try clear hi)))
   go_ret2
   exact ⟨ze, zb⟩
set_option maxHeartbeats 8000000 in
set_option maxRecDepth 100000 in
theorem polyglotref16_whole.calls (k : Nat) (a0 : Int) (a1 : Int) (a2 : Int) (r : Int) (w : World) (h : polyglotref16_whole.f k a0 a1 a2 = some r) :
    Calls Tryd.prog 103 #[.int .u64 a0, .int .i64 a1, .int .i64 a2] w fun e w' => e = .returned (.int .u64 r) ∧ Drawn0 w w' := by
  have H : ((polyglotref16_bits.f k a1).bind fun t914 => (if t914 < 0 then (polyglotref16_whole.j0 k a0 a2 true) else (polyglotref16_whole.j0 k a0 a2 (a1 == 10)))) = some r := h
  clear h
  have HC4 := Aside0.mk H
  clear H
  go_enter Tryd.func103, Tryd.ntmps103
  go_upto_region 1 with (fail)
  go_cut [14] (fun v14 wc => ∃ (kq : Nat) (x14_3 : Bool), v14 = .bool x14_3 ∧ Aside0 (polyglotref16_whole.j0 kq a0 a2 x14_3 = some r) ∧ Aside0 (kq ≤ k) ∧ Drawn0 w wc)
  case first =>
   have H := HC4.out
   clear HC4
   obtain ⟨t914, A5, H⟩ := zbd H
   by_cases c6 : t914 < 0
   ·rw [if_pos c6] at H
    have c6b0 : decide (t914 < 0) = true := decide_eq_true c6
    clear c6
    (first | rw [c6b0] | (simp only [i64_w, i32_w]; rw [c6b0]) | skip)
    have H' := Aside0.mk H
    clear H
    go_wp2_with (first | ((with_reducible refine gate_callee (f := 141) rfl ?_); refine goesL_ (some 9) rfl rfl Tryd.func141 (by kernel_rfl) rfl #[.int .i64 a1] rfl za ?_; (with_reducible refine (polyglotref16_bits.calls k a1 t914 _ A5.out).mono ?_); rintro e w' ⟨rfl, ⟨nd, rfl⟩⟩; refine ⟨_, rfl, ?_⟩))
    go_meet
    case rel => exact ⟨_, (true), zt, H', ⟨zo⟩, zd⟩
   ·rw [if_neg c6] at H
    have c6b0 : decide (t914 < 0) = false := decide_eq_false c6
    clear c6
    (first | rw [c6b0] | (simp only [i64_w, i32_w]; rw [c6b0]) | skip)
    have H' := Aside0.mk H
    clear H
    go_wp2_with (first | ((with_reducible refine gate_callee (f := 141) rfl ?_); refine goesL_ (some 9) rfl rfl Tryd.func141 (by kernel_rfl) rfl #[.int .i64 a1] rfl za ?_; (with_reducible refine (polyglotref16_bits.calls k a1 t914 _ A5.out).mono ?_); rintro e w' ⟨rfl, ⟨nd, rfl⟩⟩; refine ⟨_, rfl, ?_⟩))
    go_meet
    case rel => exact ⟨_, ((a1 == 10)), zt, H', ⟨zo⟩, zd⟩
  case rest =>
   clear HC4
   obtain ⟨kq, x14_3, rfl, HA, HJ3, ⟨mc3, rfl⟩⟩ := hcut
   cases kq with
   | zero => exact absurd HA.out (by simp [polyglotref16_whole.j0])
   | succ kj3 =>
    have H := HA.out
    clear HA
    simp only [polyglotref16_whole.j0] at H
    by_cases c7 : x14_3 = true
    ·subst c7
     replace H := zyes H
     obtain ⟨ji8, hji8⟩ : ∃ j_ : Int, (IntKind.u64.wrap (wrap64 ((wrap64 (8 * a2)) - 1))) = j_ := ⟨_, rfl⟩
     replace H : (if 0 ≤ (ji8) then (if a0 ≥ (shl .u64 1 (ji8)) then (some (IntKind.u64.wrap ((IntKind.u64.wrap (a0 - (shl .u64 1 (ji8)))) - (shl .u64 1 (ji8))))) else (some a0)) else (none)) = some r := by first | (rw [hji8] at H; exact H) | (simp only [hji8] at H ⊢; exact H)
     by_cases c9 : 0 ≤ (ji8)
     ·rw [if_pos c9] at H
      have c9b0 := eq_true c9
      have c9b1 : decide (0 ≤ (ji8)) = true := decide_eq_true c9
      clear c9
      obtain ⟨ji10, hji10⟩ : ∃ j_ : Int, (shl .u64 1 (ji8)) = j_ := ⟨_, rfl⟩
      replace H : (if a0 ≥ (ji10) then (some (IntKind.u64.wrap ((IntKind.u64.wrap (a0 - (ji10))) - (ji10)))) else (some a0)) = some r := by first | (rw [hji10] at H; exact H) | (simp only [hji10] at H ⊢; exact H)
      have hji10_ : (IntKind.u64.wrap (1 * 2 ^ min (ji8).toNat 64)) = ji10 := hji10
      have hji10z : (ji8) ≤ 64 → (IntKind.u64.wrap (1 * 2 ^ (ji8).toNat)) = ji10 := shl_small hji10
      have hji10u : (IntKind.u64.wrap (2 ^ min (ji8).toNat 64)) = ji10 := by have h_ := hji10_; rw [Int.one_mul] at h_; exact h_
      have hji10v : (ji8) ≤ 64 → (IntKind.u64.wrap (2 ^ (ji8).toNat)) = ji10 := fun hle_ => by have h_ := hji10z hle_; rw [Int.one_mul] at h_; exact h_
      by_cases c11 : a0 ≥ (ji10)
      ·rw [if_pos c11] at H
       have c11b0 : decide ((ji10) ≤ a0) = true := decide_eq_true c11
       clear c11
       obtain rfl := Option.some.inj H
       go_wp2
       go_ret
       exact ⟨by first | rfl | (simp; done) | (simp only [← hji8, ← hji10] <;> (first | rfl | simp)) | (simp [*]; done), zd⟩
      ·rw [if_neg c11] at H
       have c11b0 : decide ((ji10) ≤ a0) = false := decide_eq_false c11
       clear c11
       obtain rfl := Option.some.inj H
       go_wp2
       go_ret
       exact ⟨by first | rfl | (simp; done) | (simp only [← hji8, ← hji10] <;> (first | rfl | simp)) | (simp [*]; done), zd⟩
     ·rw [if_neg c9] at H
      exact absurd H (by simp)
    ·replace c7 := Bool.eq_false_iff.mpr c7
     subst c7
     replace H := zno H
     obtain rfl := Option.some.inj H
     go_wp2
     go_ret
     exact ⟨zt, zd⟩
def polyglotref16_Get.T19 : Bool × List (List Nat × List Nat) := (true, [([], []), ([], []), ([1], [1]), ([0, 2], [0, 2]), ([3], [3]), ([], []), ([5], [5]), ([], []), ([7], [7]), ([4, 6, 8, 4], [4, 6, 8]), ([0, 1, 2, 3, 4, 5, 6, 7, 8, 9], []), ([10, 9, 9, 0, 1, 2, 3, 4, 5, 6, 7, 8, 9], [9, 10])])
def polyglotref16_Get.B19 : List Nat := [0, 0, 2, 7, 15, 0, 32, 0, 128, 511, 1023, 2047]
theorem polyglotref16_Get.tab19 : rtab .any (opsOf Tryd.f45 19) = polyglotref16_Get.T19 := by kernel_rfl
theorem polyglotref16_Get.bits19 : waitsOk polyglotref16_Get.T19.2 polyglotref16_Get.B19 = true := by kernel_rfl
set_option maxHeartbeats 8000000 in
set_option maxRecDepth 100000 in
theorem polyglotref16_Get.calls (k : Nat) (a0 : Int) (a1 : ByteArray) (r1 : Int) (r2 : Int) (r3 : ByteArray) (r4 : List (Vl)) (r5 : Int) (r6 : Int) (w : World) (h : polyglotref16_Get.f k a0 a1 = some (r1, r2, r3, r4, r5, r6)) :
    Calls Tryd.prog 45 #[.int .i64 a0, .string a1] w fun e w' => ∃ v3_ : Value, e = .returned (.tuple #[.agg #[.int .i64 r1, .int .u64 r2, .string r3, v3_], .int .i64 r5, .int .i64 r6]) ∧ Kd.R kV 25 w' w.heap.size (fun _ => True) v3_ r4 ∧ Below w.heap.size w w' := by
  have hu25 := Tryd.underlying25
  have hu34 := Tryd.underlying34
  have HB := Aside0.mk (Below.refl w.heap.size w)
  have H : ((polyglotref16_Of.f k a0).bind fun bt916 => (if bt916.2.2.2.2.2 = true then (polyglotref16_Get.j0 k a0 a1 bt916.2.2.2.2.1 bt916.1 bt916.2.1 bt916.2.2.1 bt916.2.2.2.1 bt916.2.2.2.2.1) else (polyglotref16_Get.j0 k a0 a1 true bt916.1 bt916.2.1 bt916.2.2.1 bt916.2.2.2.1 bt916.2.2.2.2.1))) = some (r1, r2, r3, r4, r5, r6) := h
  clear h
  obtain ⟨⟨t916, t917, t918, t919, t920, t921⟩, A3, H⟩ := zbd H
  dsimp only at H
  have HC4 := Aside0.mk H
  clear H
  go_enter Tryd.func45, Tryd.ntmps45
  go_upto_region 2 with (first | ((with_reducible refine gate_dst (N := 4) rfl ?_); refine box_event rfl (N := 4) rfl (cs := #[.int .i64 0, .int .u64 0, .string (⟨#[]⟩ : ByteArray), .slice none 0 0]) (t := 25) zh ?_; intro gb915 hg w5 hbox hb; have BK915 := Aside0.mk (hbox); have GW915 := Aside0.mk ((zge (w := w) hg)); have GE915 := Aside0.mk ((zge (w := w) hg)); replace HB := Aside0.mk (below_step zb hb); clear hb hbox hg) | ((with_reducible refine gate_callee (f := 40) rfl ?_); refine goesL_ (some 15) rfl rfl Tryd.func40 (by kernel_rfl) rfl #[.int .i64 a0] rfl za ?_; (with_reducible refine (polyglotref16_Of.calls k a0 t916 t917 t918 t919 t920 t921 _ A3.out).mono ?_); rintro e w6 ⟨rfl, hb⟩; refine ⟨_, rfl, ?_⟩; replace BK915 := Aside0.mk (zbb BK915.out hb); replace HB := Aside0.mk (below_step zb hb); (try clear hb); (try clear hb2); (try clear hk); (try clear hi)) | ((with_reducible refine gate_dst (N := 7) rfl ?_); refine box_event rfl (N := 7) rfl (cs := #[.int .i64 0, .int .i64 0, .int .i64 0, .bool false, .bool false]) (t := 34) zh ?_; intro gb922 hg w7 hbox hb; have BK922 := Aside0.mk (hbox); have GW922 := Aside0.mk ((zge (w := w) hg)); have GE922 := Aside0.mk ((zge (w := w) hg)); have NB915_922 := Aside0.mk ((znl BK915.out hg)); have NB922_915 := Aside0.mk ((zng BK915.out hg)); replace BK915 := Aside0.mk (zbb BK915.out hb); replace HB := Aside0.mk (below_step zb hb); clear hb hbox hg; have hnb8 := NB922_915.out; have hnc8 := NB915_922.out; obtain ⟨hcz9_0, hcz9_1, hcz9_2, hcz9_3, hcz9_4, hfz9_0, hfz9_1, hfz9_2, hfz9_3, hfz9_4⟩ := cz5 BK922.out))
  (try simp only [Act.put, List.setIfInBounds_toArray, List.set_cons_zero, List.set_cons_succ])
  go_cut [23] (fun v23 wc => ∃ (kq : Nat) (x23_3 : Bool), v23 = .bool x23_3 ∧ Aside0 (polyglotref16_Get.j0 kq a0 a1 x23_3 t916 t917 t918 t919 t920 = some (r1, r2, r3, r4, r5, r6)) ∧ Aside0 (kq ≤ k) ∧ Aside0 (wc.heap[gb915]? = some (.cells #[.int .i64 0, .int .u64 0, .string (⟨#[]⟩ : ByteArray), (.slice none 0 0)] 25 (0, 0))) ∧ Aside0 (wc.heap[gb922]? = some (.cells #[.int .i64 t916, .int .i64 t917, .int .i64 t918, .bool t919, .bool t920] 34 (0, 0))) ∧ Aside0 (Below w.heap.size w wc))
  case first =>
   have H := HC4.out
   clear HC4
   by_cases c10 : t921 = true
   ·subst c10
    replace H := zyes H
    have H' := Aside0.mk H
    clear H
    have hnb11 := NB922_915.out
    have hnc11 := NB915_922.out
    obtain ⟨hcz12_0, hcz12_1, hcz12_2, hcz12_3, hcz12_4, hfz12_0, hfz12_1, hfz12_2, hfz12_3, hfz12_4⟩ := cz5 BK922.out
    go_wp2
    go_meet
    case rel => exact ⟨_, (t920), zt, H', ⟨zo⟩, ⟨zk BK915.out⟩, ⟨zp5 BK922.out _ _ _ _ _⟩, ⟨zb⟩⟩
   ·replace c10 := Bool.eq_false_iff.mpr c10
    subst c10
    replace H := zno H
    have H' := Aside0.mk H
    clear H
    go_wp2
    go_meet
    case rel => exact ⟨_, (true), zt, H', ⟨zo⟩, ⟨zk BK915.out⟩, ⟨zp5 BK922.out _ _ _ _ _⟩, ⟨zb⟩⟩
  case rest =>
   clear HC4
   try clear hcz9_0
   try clear hcz9_1
   try clear hcz9_2
   try clear hcz9_3
   try clear hcz9_4
   try clear hfz9_0
   try clear hfz9_1
   try clear hfz9_2
   try clear hfz9_3
   try clear hfz9_4
   obtain ⟨kq, x23_3, rfl, HA, HJ3, BK915, BK922, HB⟩ := hcut
   cases kq with
   | zero => exact absurd HA.out (by simp [polyglotref16_Get.j0])
   | succ kj3 =>
    have H := HA.out
    clear HA
    simp only [polyglotref16_Get.j0] at H
    by_cases c13 : x23_3 = true
    ·subst c13
     replace H := zyes H
     simp only [Option.some.injEq, Prod.mk.injEq] at H
     obtain ⟨rfl, rfl, rfl, rfl, rfl, rfl⟩ := H
     have hnb14 := NB915_922.out
     have hnc14 := NB922_915.out
     obtain ⟨hcz15_0, hcz15_1, hcz15_2, hcz15_3, hfz15_0, hfz15_1, hfz15_2, hfz15_3⟩ := cz4 BK915.out
     go_wp2
     refine bodyPost_ret (results_ctt rfl _ _ gb915 25 #[.int .i64 0, .int .u64 0, .string (⟨#[]⟩ : ByteArray), .slice none 0 0] (0, 0) _ rfl (zp4 BK915.out _ _ _ _) Tryd.underlying25 rfl (by kernel_rfl)) rfl ?_
     exact ⟨_, ze, zn, zb⟩
    ·replace c13 := Bool.eq_false_iff.mpr c13
     subst c13
     replace H := zno H
     by_cases c16 : (a1.size : Int) < t918
     ·rw [if_pos c16] at H
      have c16b0 : decide ((a1.size : Int) < t918) = true := decide_eq_true c16
      clear c16
      simp only [Option.some.injEq, Prod.mk.injEq] at H
      obtain ⟨rfl, rfl, rfl, rfl, rfl, rfl⟩ := H
      have hnb17 := NB922_915.out
      have hnc17 := NB915_922.out
      obtain ⟨hcz18_0, hcz18_1, hcz18_2, hcz18_3, hcz18_4, hfz18_0, hfz18_1, hfz18_2, hfz18_3, hfz18_4⟩ := cz5 BK922.out
      obtain ⟨hcz19_0, hcz19_1, hcz19_2, hcz19_3, hfz19_0, hfz19_1, hfz19_2, hfz19_3⟩ := cz4 BK915.out
      go_wp2
      refine bodyPost_ret (results_ctt rfl _ _ gb915 25 #[.int .i64 0, .int .u64 0, .string (⟨#[]⟩ : ByteArray), .slice none 0 0] (0, 0) _ rfl (zp4 BK915.out _ _ _ _) Tryd.underlying25 rfl (by kernel_rfl)) rfl ?_
      exact ⟨_, ze, zn, zb⟩
     ·rw [if_neg c16] at H
      have c16b0 : decide ((a1.size : Int) < t918) = false := decide_eq_false c16
      clear c16
      have HC20 := Aside0.mk H
      clear H
      have hnb21 := NB922_915.out
      have hnc21 := NB915_922.out
      obtain ⟨hcz22_0, hcz22_1, hcz22_2, hcz22_3, hcz22_4, hfz22_0, hfz22_1, hfz22_2, hfz22_3, hfz22_4⟩ := cz5 BK922.out
      go_upto_block 0 with (first | ((with_reducible refine gate_dst (N := 9) rfl ?_); refine box_event rfl (N := 9) rfl (cs := #[.int .i64 0, .int .u64 0, .string (⟨#[]⟩ : ByteArray), .slice none 0 0]) (t := 25) zh ?_; intro gb923 hg w23 hbox hb; have BK923 := Aside0.mk (hbox); have GW923 := Aside0.mk ((zge (w := w) hg)); have GE923 := Aside0.mk ((zge (w := w) hg)); have NB915_923 := Aside0.mk ((znl BK915.out hg)); have NB923_915 := Aside0.mk ((zng BK915.out hg)); replace BK915 := Aside0.mk (zbb BK915.out hb); have NB922_923 := Aside0.mk ((znl BK922.out hg)); have NB923_922 := Aside0.mk ((zng BK922.out hg)); replace BK922 := Aside0.mk (zbb BK922.out hb); replace HB := Aside0.mk (below_step zb hb); clear hb hbox hg; have hnb24 := NB923_915.out; have hnc24 := NB915_923.out; have hnb25 := NB923_922.out; have hnc25 := NB922_923.out; obtain ⟨hcz26_0, hcz26_1, hcz26_2, hcz26_3, hfz26_0, hfz26_1, hfz26_2, hfz26_3⟩ := cz4 BK923.out; obtain ⟨hcz27_0, hcz27_1, hcz27_2, hcz27_3, hcz27_4, hfz27_0, hfz27_1, hfz27_2, hfz27_3, hfz27_4⟩ := cz5 BK922.out))
      (try simp only [Act.put, List.setIfInBounds_toArray, List.set_cons_zero, List.set_cons_succ])
      go_cut [10] (fun v10 wc => ∃ (kq : Nat) (x10_19 : Int) (x916000_19 : Int) (x916001_19 : Int) (x916002_19 : ByteArray) (x924001_19 : Int) (x924002_19 : ByteArray), v10 = .int .i64 x10_19 ∧ Aside0 (polyglotref16_Get.j1 kq x10_19 t917 x924001_19 x924002_19 = some (r1, r2, r3, r4, r5, r6)) ∧ Aside0 (kq ≤ kj3) ∧ Aside0 (wc.heap[gb915]? = some (.cells #[.int .i64 x916000_19, .int .u64 x916001_19, .string x916002_19, (.slice none 0 0)] 25 (0, 0))) ∧ Aside0 (wc.heap[gb922]? = some (.cells #[.int .i64 t916, .int .i64 t917, .int .i64 t918, .bool t919, .bool t920] 34 (0, 0))) ∧ Aside0 (wc.heap[gb923]? = some (.cells #[.int .i64 t917, .int .u64 x924001_19, .string x924002_19, (.slice none 0 0)] 25 (0, 0))) ∧ Aside0 (Below w.heap.size w wc))
      case first =>
       have H := HC20.out
       clear HC20
       by_cases c28 : t919 = true
       ·subst c28
        replace H := zyes H
        by_cases c29 : 0 ≤ t918
        ·rw [if_pos c29] at H
         have c29b0 := eq_true c29
         have c29b1 : decide (0 ≤ t918) = true := decide_eq_true c29
         clear c29
         by_cases c30 : t918 ≤ (a1.size : Int)
         ·rw [if_pos c30] at H
          have c30b0 := eq_true c30
          have c30b1 : decide (t918 ≤ (a1.size : Int)) = true := decide_eq_true c30
          clear c30
          obtain ⟨t924, A31, H⟩ := zbd H
          by_cases c32 : t924 > (IntKind.u64.wrap (wrap64 ((a1.size : Int) - t918)))
          ·rw [if_pos c32] at H
           have c32b0 : decide ((IntKind.u64.wrap (wrap64 ((a1.size : Int) - t918))) < t924) = true := decide_eq_true c32
           clear c32
           (first | rw [c32b0] | (simp only [i64_w, i32_w]; rw [c32b0]) | skip)
           simp only [Option.some.injEq, Prod.mk.injEq] at H
           obtain ⟨rfl, rfl, rfl, rfl, rfl, rfl⟩ := H
           have hnb33 := NB922_915.out
           have hnc33 := NB915_922.out
           have hnb34 := NB922_923.out
           have hnc34 := NB923_922.out
           obtain ⟨hcz35_0, hcz35_1, hcz35_2, hcz35_3, hcz35_4, hfz35_0, hfz35_1, hfz35_2, hfz35_3, hfz35_4⟩ := cz5 BK922.out
           go_wp2_with (first | ((with_reducible refine gate_callee (f := 102) rfl ?_); refine goesL_ (some 43) rfl rfl Tryd.func102 (by kernel_rfl) rfl #[.string (a1.extract 0 (t918 : Int).toNat)] rfl za ?_; (with_reducible refine (polyglotref16_Number.calls kj3 (a1.extract 0 (t918 : Int).toNat) t924 _ A31.out).mono ?_); rintro e w' ⟨rfl, ⟨nd, rfl⟩⟩; refine ⟨_, rfl, ?_⟩; have hnb36 := NB915_923.out; have hnc36 := NB923_915.out; obtain ⟨hcz37_0, hcz37_1, hcz37_2, hcz37_3, hfz37_0, hfz37_1, hfz37_2, hfz37_3⟩ := cz4 BK915.out))
           refine bodyPost_ret (results_ctt rfl _ _ gb915 25 #[.int .i64 0, .int .u64 0, .string (⟨#[]⟩ : ByteArray), .slice none 0 0] (0, 0) _ rfl (by (with_reducible repeat (first | refine blk_drewN ?_ _ | refine blk_drew ?_ | refine blk_alloc ?_ _)); refine blk_put (cs := #[.int .i64 0, .int .u64 0, .string (⟨#[]⟩ : ByteArray), .slice none 0 0]) ?_ 3 _ rfl; (with_reducible repeat (first | refine blk_drewN ?_ _ | refine blk_drew ?_ | refine blk_alloc ?_ _)); refine blk_put (cs := #[.int .i64 0, .int .u64 0, .string (⟨#[]⟩ : ByteArray), .slice none 0 0]) ?_ 2 _ rfl; (with_reducible repeat (first | refine blk_drewN ?_ _ | refine blk_drew ?_ | refine blk_alloc ?_ _)); refine blk_put (cs := #[.int .i64 0, .int .u64 0, .string (⟨#[]⟩ : ByteArray), .slice none 0 0]) ?_ 1 _ rfl; (with_reducible repeat (first | refine blk_drewN ?_ _ | refine blk_drew ?_ | refine blk_alloc ?_ _)); refine blk_put (cs := #[.int .i64 0, .int .u64 0, .string (⟨#[]⟩ : ByteArray), .slice none 0 0]) ?_ 0 _ rfl; exact zk BK915.out) Tryd.underlying25 rfl (by kernel_rfl)) rfl ?_
           exact ⟨_, ze, zn, zb⟩
          ·rw [if_neg c32] at H
           have c32b0 : decide ((IntKind.u64.wrap (wrap64 ((a1.size : Int) - t918))) < t924) = false := decide_eq_false c32
           clear c32
           (first | rw [c32b0] | (simp only [i64_w, i32_w]; rw [c32b0]) | skip)
           have c38b0 := eq_true (of_decide_eq_true (by first | (with_reducible assumption) | assumption) : 0 ≤ t918)
           by_cases c39 : t918 ≤ (wrap64 (t918 + (wrap64 (t924))))
           ·rw [if_pos c39] at H
            have c39b0 := eq_true c39
            have c39b1 : decide (t918 ≤ (wrap64 (t918 + (wrap64 (t924))))) = true := decide_eq_true c39
            by_cases c40 : (wrap64 (t918 + (wrap64 (t924)))) ≤ (a1.size : Int)
            ·rw [if_pos c40] at H
             have c40b0 := eq_true c40
             have c40b1 : decide ((wrap64 (t918 + (wrap64 (t924)))) ≤ (a1.size : Int)) = true := decide_eq_true c40
             have H' := Aside0.mk H
             clear H
             have hnb41 := NB922_915.out
             have hnc41 := NB915_922.out
             have hnb42 := NB922_923.out
             have hnc42 := NB923_922.out
             obtain ⟨hcz43_0, hcz43_1, hcz43_2, hcz43_3, hcz43_4, hfz43_0, hfz43_1, hfz43_2, hfz43_3, hfz43_4⟩ := cz5 BK922.out
             go_wp2_with (first | ((with_reducible refine gate_callee (f := 102) rfl ?_); refine goesL_ (some 43) rfl rfl Tryd.func102 (by kernel_rfl) rfl #[.string (a1.extract 0 (t918 : Int).toNat)] rfl za ?_; (with_reducible refine (polyglotref16_Number.calls kj3 (a1.extract 0 (t918 : Int).toNat) t924 _ A31.out).mono ?_); rintro e w' ⟨rfl, ⟨nd, rfl⟩⟩; refine ⟨_, rfl, ?_⟩; have hnb44 := NB923_915.out; have hnc44 := NB915_923.out; obtain ⟨hcz45_0, hcz45_1, hcz45_2, hcz45_3, hfz45_0, hfz45_1, hfz45_2, hfz45_3⟩ := cz4 BK923.out))
             go_meet
             case rel => exact ⟨_, (wrap64 (t918 + (wrap64 (t924)))), (0), (0), ((⟨#[]⟩ : ByteArray)), (0), (a1.extract (t918 : Int).toNat ((wrap64 (t918 + (wrap64 (t924)))) : Int).toNat), zt, H', ⟨zoj HJ3.out⟩, ⟨zk BK915.out⟩, ⟨zk BK922.out⟩, ⟨by (with_reducible repeat (first | refine blk_drewN ?_ _ | refine blk_drew ?_ | refine blk_alloc ?_ _)); refine blk_put (cs := #[.int .i64 t917, .int .u64 0, .string (⟨#[]⟩ : ByteArray), .slice none 0 0]) ?_ 2 _ rfl; (with_reducible repeat (first | refine blk_drewN ?_ _ | refine blk_drew ?_ | refine blk_alloc ?_ _)); refine blk_put (cs := #[.int .i64 t917, .int .u64 0, .string (⟨#[]⟩ : ByteArray), .slice none 0 0]) ?_ 3 _ rfl; (with_reducible repeat (first | refine blk_drewN ?_ _ | refine blk_drew ?_ | refine blk_alloc ?_ _)); refine blk_put (cs := #[.int .i64 t917, .int .u64 0, .string (⟨#[]⟩ : ByteArray), .slice none 0 0]) ?_ 2 _ rfl; (with_reducible repeat (first | refine blk_drewN ?_ _ | refine blk_drew ?_ | refine blk_alloc ?_ _)); refine blk_put (cs := #[.int .i64 t917, .int .u64 0, .string (⟨#[]⟩ : ByteArray), .slice none 0 0]) ?_ 1 _ rfl; (with_reducible repeat (first | refine blk_drewN ?_ _ | refine blk_drew ?_ | refine blk_alloc ?_ _)); refine blk_put (cs := #[.int .i64 0, .int .u64 0, .string (⟨#[]⟩ : ByteArray), .slice none 0 0]) ?_ 0 _ rfl; exact zk BK923.out⟩, ⟨zb⟩⟩
            ·rw [if_neg c40] at H
             exact absurd H (by simp)
           ·rw [if_neg c39] at H
            exact absurd H (by simp)
         ·rw [if_neg c30] at H
          exact absurd H (by simp)
        ·rw [if_neg c29] at H
         exact absurd H (by simp)
       ·replace c28 := Bool.eq_false_iff.mpr c28
        subst c28
        replace H := zno H
        by_cases c46 : t918 = 16
        ·rw [if_pos c46] at H
         have c46b0 : (t918 == 16) = true := beq_iff_eq.mpr c46
         have c46b1 : (t918 != 16) = false := bne_eq_false_iff_eq.mpr c46
         clear c46
         by_cases c47 : 16 ≤ (a1.size : Int)
         ·rw [if_pos c47] at H
          have c47b0 := eq_true c47
          have c47b1 : decide (16 ≤ (a1.size : Int)) = true := decide_eq_true c47
          clear c47
          have H' := Aside0.mk H
          clear H
          have hnb48 := NB922_915.out
          have hnc48 := NB915_922.out
          have hnb49 := NB922_923.out
          have hnc49 := NB923_922.out
          obtain ⟨hcz50_0, hcz50_1, hcz50_2, hcz50_3, hcz50_4, hfz50_0, hfz50_1, hfz50_2, hfz50_3, hfz50_4⟩ := cz5 BK922.out
          have hnb51 := NB923_915.out
          have hnc51 := NB915_923.out
          obtain ⟨hcz52_0, hcz52_1, hcz52_2, hcz52_3, hfz52_0, hfz52_1, hfz52_2, hfz52_3⟩ := cz4 BK923.out
          go_wp2
          go_meet
          case rel => exact ⟨_, (t918), (0), (0), ((⟨#[]⟩ : ByteArray)), (0), (a1.extract 0 16), zt, H', ⟨zoj HJ3.out⟩, ⟨zk BK915.out⟩, ⟨zk BK922.out⟩, ⟨by (with_reducible repeat (first | refine blk_drewN ?_ _ | refine blk_drew ?_ | refine blk_alloc ?_ _)); refine blk_put (cs := #[.int .i64 t917, .int .u64 0, .string (⟨#[]⟩ : ByteArray), .slice none 0 0]) ?_ 2 _ rfl; (with_reducible repeat (first | refine blk_drewN ?_ _ | refine blk_drew ?_ | refine blk_alloc ?_ _)); refine blk_put (cs := #[.int .i64 t917, .int .u64 0, .string (⟨#[]⟩ : ByteArray), .slice none 0 0]) ?_ 3 _ rfl; (with_reducible repeat (first | refine blk_drewN ?_ _ | refine blk_drew ?_ | refine blk_alloc ?_ _)); refine blk_put (cs := #[.int .i64 t917, .int .u64 0, .string (⟨#[]⟩ : ByteArray), .slice none 0 0]) ?_ 2 _ rfl; (with_reducible repeat (first | refine blk_drewN ?_ _ | refine blk_drew ?_ | refine blk_alloc ?_ _)); refine blk_put (cs := #[.int .i64 t917, .int .u64 0, .string (⟨#[]⟩ : ByteArray), .slice none 0 0]) ?_ 1 _ rfl; (with_reducible repeat (first | refine blk_drewN ?_ _ | refine blk_drew ?_ | refine blk_alloc ?_ _)); refine blk_put (cs := #[.int .i64 0, .int .u64 0, .string (⟨#[]⟩ : ByteArray), .slice none 0 0]) ?_ 0 _ rfl; exact zk BK923.out⟩, ⟨zb⟩⟩
         ·rw [if_neg c47] at H
          exact absurd H (by simp)
        ·rw [if_neg c46] at H
         have c46b0 : (t918 == 16) = false := beq_eq_false_iff_ne.mpr c46
         have c46b1 : (t918 != 16) = true := bne_iff_ne.mpr c46
         by_cases c53 : a0 = 65
         ·rw [if_pos c53] at H
          have c53b0 : (a0 == 65) = true := beq_iff_eq.mpr c53
          have c53b1 : (a0 != 65) = false := bne_eq_false_iff_eq.mpr c53
          clear c53
          have H' := Aside0.mk H
          clear H
          have hnb54 := NB922_915.out
          have hnc54 := NB915_922.out
          have hnb55 := NB922_923.out
          have hnc55 := NB923_922.out
          obtain ⟨hcz56_0, hcz56_1, hcz56_2, hcz56_3, hcz56_4, hfz56_0, hfz56_1, hfz56_2, hfz56_3, hfz56_4⟩ := cz5 BK922.out
          have hnb57 := NB923_915.out
          have hnc57 := NB915_923.out
          obtain ⟨hcz58_0, hcz58_1, hcz58_2, hcz58_3, hfz58_0, hfz58_1, hfz58_2, hfz58_3⟩ := cz4 BK923.out
          go_wp2
          go_meet
          case rel => exact ⟨_, (t918), (0), (0), ((⟨#[]⟩ : ByteArray)), (1), ((⟨#[]⟩ : ByteArray)), zt, H', ⟨zoj HJ3.out⟩, ⟨zk BK915.out⟩, ⟨zk BK922.out⟩, ⟨by (with_reducible repeat (first | refine blk_drewN ?_ _ | refine blk_drew ?_ | refine blk_alloc ?_ _)); refine blk_put (cs := #[.int .i64 t917, .int .u64 0, .string (⟨#[]⟩ : ByteArray), .slice none 0 0]) ?_ 1 _ rfl; (with_reducible repeat (first | refine blk_drewN ?_ _ | refine blk_drew ?_ | refine blk_alloc ?_ _)); refine blk_put (cs := #[.int .i64 t917, .int .u64 0, .string (⟨#[]⟩ : ByteArray), .slice none 0 0]) ?_ 3 _ rfl; (with_reducible repeat (first | refine blk_drewN ?_ _ | refine blk_drew ?_ | refine blk_alloc ?_ _)); refine blk_put (cs := #[.int .i64 t917, .int .u64 0, .string (⟨#[]⟩ : ByteArray), .slice none 0 0]) ?_ 2 _ rfl; (with_reducible repeat (first | refine blk_drewN ?_ _ | refine blk_drew ?_ | refine blk_alloc ?_ _)); refine blk_put (cs := #[.int .i64 t917, .int .u64 0, .string (⟨#[]⟩ : ByteArray), .slice none 0 0]) ?_ 1 _ rfl; (with_reducible repeat (first | refine blk_drewN ?_ _ | refine blk_drew ?_ | refine blk_alloc ?_ _)); refine blk_put (cs := #[.int .i64 0, .int .u64 0, .string (⟨#[]⟩ : ByteArray), .slice none 0 0]) ?_ 0 _ rfl; exact zk BK923.out⟩, ⟨zb⟩⟩
         ·rw [if_neg c53] at H
          have c53b0 : (a0 == 65) = false := beq_eq_false_iff_ne.mpr c53
          have c53b1 : (a0 != 65) = true := bne_iff_ne.mpr c53
          by_cases c59 : t918 > 0
          ·rw [if_pos c59] at H
           have c59b0 : decide (0 < t918) = true := decide_eq_true c59
           clear c59
           by_cases c60 : 0 ≤ t918
           ·rw [if_pos c60] at H
            have c60b0 := eq_true c60
            have c60b1 : decide (0 ≤ t918) = true := decide_eq_true c60
            clear c60
            by_cases c61 : t918 ≤ (a1.size : Int)
            ·rw [if_pos c61] at H
             have c61b0 := eq_true c61
             have c61b1 : decide (t918 ≤ (a1.size : Int)) = true := decide_eq_true c61
             clear c61
             obtain ⟨t925, A62, H⟩ := zbd H
             obtain ⟨t926, A63, H⟩ := zbd H
             have H' := Aside0.mk H
             clear H
             have hnb64 := NB922_915.out
             have hnc64 := NB915_922.out
             have hnb65 := NB922_923.out
             have hnc65 := NB923_922.out
             obtain ⟨hcz66_0, hcz66_1, hcz66_2, hcz66_3, hcz66_4, hfz66_0, hfz66_1, hfz66_2, hfz66_3, hfz66_4⟩ := cz5 BK922.out
             try go_wp2
             have n0_ : Aside0 (((((w23.setCell ⟨gb923, 0, none⟩ (.int .i64 t917)).setCell ⟨gb923, 1, none⟩ (.int .u64 0)).setCell ⟨gb923, 2, none⟩ (.string (⟨#[]⟩ : ByteArray))).setCell ⟨gb923, 3, none⟩ (.slice none 0 0)).heap[gb915]? = some (.cells #[.int .i64 0, .int .u64 0, .string (⟨#[]⟩ : ByteArray), .slice none 0 0] 25 (0, 0))) := ⟨zk BK915.out⟩
             have n1_ : Aside0 (((((w23.setCell ⟨gb923, 0, none⟩ (.int .i64 t917)).setCell ⟨gb923, 1, none⟩ (.int .u64 0)).setCell ⟨gb923, 2, none⟩ (.string (⟨#[]⟩ : ByteArray))).setCell ⟨gb923, 3, none⟩ (.slice none 0 0)).heap[gb922]? = some (.cells #[.int .i64 t916, .int .i64 t917, .int .i64 t918, .bool false, .bool t920] 34 (0, 0))) := ⟨zk BK922.out⟩
             have n2_ : Aside0 (((((w23.setCell ⟨gb923, 0, none⟩ (.int .i64 t917)).setCell ⟨gb923, 1, none⟩ (.int .u64 0)).setCell ⟨gb923, 2, none⟩ (.string (⟨#[]⟩ : ByteArray))).setCell ⟨gb923, 3, none⟩ (.slice none 0 0)).heap[gb923]? = some (.cells #[.int .i64 t917, .int .u64 0, .string (⟨#[]⟩ : ByteArray), .slice none 0 0] 25 (0, 0))) := ⟨zp4 BK923.out _ _ _ _⟩
             have n3_ : Aside0 (Below w.heap.size w ((((w23.setCell ⟨gb923, 0, none⟩ (.int .i64 t917)).setCell ⟨gb923, 1, none⟩ (.int .u64 0)).setCell ⟨gb923, 2, none⟩ (.string (⟨#[]⟩ : ByteArray))).setCell ⟨gb923, 3, none⟩ (.slice none 0 0))) := ⟨zb⟩
             (try clear BK915)
             (try clear BK922)
             (try clear BK923)
             (try clear HB)
             generalize ((((w23.setCell ⟨gb923, 0, none⟩ (.int .i64 t917)).setCell ⟨gb923, 1, none⟩ (.int .u64 0)).setCell ⟨gb923, 2, none⟩ (.string (⟨#[]⟩ : ByteArray))).setCell ⟨gb923, 3, none⟩ (.slice none 0 0)) = w67 at n0_ n1_ n2_ n3_ ⊢
             have BK915 := n0_
             have BK922 := n1_
             have BK923 := n2_
             have HB := n3_
             clear n0_ n1_ n2_ n3_
             have n0_ := Aside0.mk (blk_drew BK915.out)
             have n1_ := Aside0.mk (blk_drew BK922.out)
             have n2_ := Aside0.mk (blk_drew BK923.out)
             have n3_ := Aside0.mk (below_drew1 HB.out)
             clear BK915
             clear BK922
             clear BK923
             clear HB
             have BK915 := n0_
             have BK922 := n1_
             have BK923 := n2_
             have HB := n3_
             clear n0_ n1_ n2_ n3_
             refine start_ (n := 12) (S := fun w' => w'.cell? ⟨gb922, 0, none⟩ = some (.int .i64 t916) ∧ w'.cell? ⟨gb922, 1, none⟩ = some (.int .i64 t917) ∧ w'.cell? ⟨gb922, 2, none⟩ = some (.int .i64 t918) ∧ w'.cell? ⟨gb922, 3, none⟩ = some (.bool false) ∧ w'.cell? ⟨gb922, 4, none⟩ = some (.bool t920)) (ds := []) (bm 12 0) (by kernel_rfl) rfl rfl ⟨(blk_cell BK922.out 0).trans rfl, (blk_cell BK922.out 1).trans rfl, (blk_cell BK922.out 2).trans rfl, (blk_cell BK922.out 3).trans rfl, (blk_cell BK922.out 4).trans rfl⟩ (fun hHeld => ?_); refine with_tabW polyglotref16_Get.tab19 polyglotref16_Get.bits19 (fun HT_ HW_ => ?_)
             generalize w67.drew = w68 at BK915 BK922 BK923 HB hHeld ⊢
             refine pu 0 (some 79) (bm 12 1) (h := ?_)
             refine pu 1 (some 80) (bm 12 3) (h := ?_)
             refine pu 5 (some 84) (bm 12 35) (h := ?_)
             refine pu 7 (some 86) (bm 12 163) (h := ?_)
             refine tk 2 (some 81) (bm 12 167) hHeld (h := ?_)
             refine pu 3 (some 82) (bm 12 175) (h := ?_)
             refine tk 6 (some 85) (bm 12 239) hHeld (h := ?_)
             refine tk 8 (some 87) (bm 12 495) hHeld (h := ?_)
             refine one_ (i := 4) (N := some 83) (bm 12 511) rfl rfl (one_of HT_.out (by kernel_rfl)) (by decide) (fun K hK => ?_)
             refine goes_ Tryd.func102 (by kernel_rfl) rfl #[.string (a1.extract 0 (t918 : Int).toNat)] (by rfl) rfl rfl za ?_
             with_reducible refine (polyglotref16_Number.calls kj3 (a1.extract 0 (t918 : Int).toNat) t925 _ A62.out).mono ?_
             rintro e w' ⟨rfl, ⟨nd, rfl⟩⟩
             refine ⟨_, rfl, ?_⟩
             refine hK.out _ _ ⟨(blk_cell BK922.out 0).trans rfl, (blk_cell BK922.out 1).trans rfl, (blk_cell BK922.out 2).trans rfl, (blk_cell BK922.out 3).trans rfl, (blk_cell BK922.out 4).trans rfl⟩ (fun hHeld => ?_)
             clear hK K
             refine norm_ (a' := ?_) ?_ ?_
             rotate_left
             ·show Act.put _ (some 83) _ = _
              simp only [Act.put, List.setIfInBounds_toArray, List.set_cons_zero, List.set_cons_succ, i64_w, i32_w]
              rfl
             refine one_ (i := 9) (N := some 88) (bm 12 1023) rfl rfl (one_of HT_.out (by kernel_rfl)) (by decide) (fun K hK => ?_)
             refine goes_ Tryd.func103 (by kernel_rfl) rfl #[.int .u64 t925, .int .i64 t917, .int .i64 t918] (by rfl) rfl rfl za ?_
             with_reducible refine (polyglotref16_whole.calls kj3 t925 t917 t918 t926 _ A63.out).mono ?_
             rintro e w' ⟨rfl, ⟨nd, rfl⟩⟩
             refine ⟨_, rfl, ?_⟩
             refine hK.out _ _ ⟨(blk_cell BK922.out 0).trans rfl, (blk_cell BK922.out 1).trans rfl, (blk_cell BK922.out 2).trans rfl, (blk_cell BK922.out 3).trans rfl, (blk_cell BK922.out 4).trans rfl⟩ (fun hHeld => ?_)
             clear hK K
             refine norm_ (a' := ?_) ?_ ?_
             rotate_left
             ·show Act.put _ (some 88) _ = _
              simp only [Act.put, List.setIfInBounds_toArray, List.set_cons_zero, List.set_cons_succ, i64_w, i32_w]
              rfl
             refine pu 10 (some 89) (bm 12 2047) (h := ?_)
             refine one_ (i := 11) (N := none) (bm 12 4095) rfl rfl (one_of HT_.out (by kernel_rfl)) (by decide) (fun K hK => ?_)
             have hs69 : w68.cell? ⟨gb923, 1, none⟩ = some (.int .u64 0) := (blk_cell BK923.out 1).trans rfl
             have hfs69 := blk_frozen BK923.out 1
             have hns69_0 := NB915_923.out
             have hns69_1 := NB922_923.out
             have hms69_0 := NB923_915.out
             have hms69_1 := NB923_922.out
             refine skip_ (w1 := ?_) (by rfl) rfl ?_ ?_
             rotate_left
             ·go_simp
              rfl
             refine hK.out _ _ ⟨((cell_far (p := ⟨gb923, _, none⟩) NB922_923.out _).trans (hHeld.1)), ((cell_far (p := ⟨gb923, _, none⟩) NB922_923.out _).trans (hHeld.2.1)), ((cell_far (p := ⟨gb923, _, none⟩) NB922_923.out _).trans (hHeld.2.2.1)), ((cell_far (p := ⟨gb923, _, none⟩) NB922_923.out _).trans (hHeld.2.2.2.1)), ((cell_far (p := ⟨gb923, _, none⟩) NB922_923.out _).trans (hHeld.2.2.2.2))⟩ (fun hHeld => ?_)
             clear hK K
             refine done_ (done_of HT_.out (by kernel_rfl)) ?_
             try go_wp2
             go_meet
             case rel => exact ⟨_, (t918), (0), (0), ((⟨#[]⟩ : ByteArray)), (t926), ((⟨#[]⟩ : ByteArray)), zt, H', ⟨zoj HJ3.out⟩, ⟨zk BK915.out⟩, ⟨zk BK922.out⟩, ⟨by (with_reducible repeat (first | refine blk_drewN ?_ _ | refine blk_drew ?_ | refine blk_alloc ?_ _)); refine blk_put (cs := #[.int .i64 t917, .int .u64 0, .string (⟨#[]⟩ : ByteArray), .slice none 0 0]) ?_ 1 _ rfl; exact zk BK923.out⟩, ⟨zb⟩⟩
            ·rw [if_neg c61] at H
             exact absurd H (by simp)
           ·rw [if_neg c60] at H
            exact absurd H (by simp)
          ·rw [if_neg c59] at H
           have c59b0 : decide (0 < t918) = false := decide_eq_false c59
           clear c59
           have H' := Aside0.mk H
           clear H
           have hnb70 := NB922_915.out
           have hnc70 := NB915_922.out
           have hnb71 := NB922_923.out
           have hnc71 := NB923_922.out
           obtain ⟨hcz72_0, hcz72_1, hcz72_2, hcz72_3, hcz72_4, hfz72_0, hfz72_1, hfz72_2, hfz72_3, hfz72_4⟩ := cz5 BK922.out
           go_wp2
           go_meet
           case rel => exact ⟨_, (t918), (0), (0), ((⟨#[]⟩ : ByteArray)), (0), ((⟨#[]⟩ : ByteArray)), zt, H', ⟨zoj HJ3.out⟩, ⟨zk BK915.out⟩, ⟨zk BK922.out⟩, ⟨zp4 BK923.out _ _ _ _⟩, ⟨zb⟩⟩
      case rest =>
       clear HC20
       try clear c13
       try clear c16
       try clear c16b0
       try clear hcz22_0
       try clear hcz22_1
       try clear hcz22_2
       try clear hcz22_3
       try clear hcz22_4
       try clear hcz26_0
       try clear hcz26_1
       try clear hcz26_2
       try clear hcz26_3
       try clear hcz27_0
       try clear hcz27_1
       try clear hcz27_2
       try clear hcz27_3
       try clear hcz27_4
       try clear hcz9_0
       try clear hcz9_1
       try clear hcz9_2
       try clear hcz9_3
       try clear hcz9_4
       try clear hfz22_0
       try clear hfz22_1
       try clear hfz22_2
       try clear hfz22_3
       try clear hfz22_4
       try clear hfz26_0
       try clear hfz26_1
       try clear hfz26_2
       try clear hfz26_3
       try clear hfz27_0
       try clear hfz27_1
       try clear hfz27_2
       try clear hfz27_3
       try clear hfz27_4
       try clear hfz9_0
       try clear hfz9_1
       try clear hfz9_2
       try clear hfz9_3
       try clear hfz9_4
       obtain ⟨kq, x10_19, x916000_19, x916001_19, x916002_19, x924001_19, x924002_19, rfl, HA, HJ19, BK915, BK922, BK923, HB⟩ := hcut
       cases kq with
       | zero => exact absurd HA.out (by simp [polyglotref16_Get.j1])
       | succ kj19 =>
        have H := HA.out
        clear HA
        simp only [polyglotref16_Get.j1] at H
        obtain ⟨t927, A73, H⟩ := zbd H
        by_cases c74 : t927 = 2
        ·rw [if_pos c74] at H
         have c74b0 : (t927 == 2) = true := beq_iff_eq.mpr c74
         have c74b1 : (t927 != 2) = false := bne_eq_false_iff_eq.mpr c74
         clear c74
         simp only [Option.some.injEq, Prod.mk.injEq] at H
         obtain ⟨rfl, rfl, rfl, rfl, rfl, rfl⟩ := H
         have hnb75 := NB923_915.out
         have hnc75 := NB915_923.out
         have hnb76 := NB923_922.out
         have hnc76 := NB922_923.out
         obtain ⟨hcz77_0, hcz77_1, hcz77_2, hcz77_3, hfz77_0, hfz77_1, hfz77_2, hfz77_3⟩ := cz4 BK923.out
         go_wp2_with (first | ((with_reducible refine gate_callee (f := 47) rfl ?_); refine goesL_ (some 91) rfl rfl Tryd.func47 (by kernel_rfl) rfl #[.agg #[.int .i64 t917, .int .u64 x924001_19, .string x924002_19, .slice none 0 0]] rfl za ?_; (refine (polyglotref16_Check.calls kj19 t917 x924001_19 x924002_19 _ _ ([] : List (Vl)) t927 _ ?side1 ?side2 A73.out).mono ?_); (case side1 => exact Kd.C_nil _ _); (case side2 => exact Nat.le_refl _); rintro e w78 ⟨rfl, hb⟩; refine ⟨_, rfl, ?_⟩; replace BK915 := Aside0.mk (zbb BK915.out hb); replace BK922 := Aside0.mk (zbb BK922.out hb); replace BK923 := Aside0.mk (zbb BK923.out hb); replace HB := Aside0.mk (below_step zb hb); (try clear hb); (try clear hb2); (try clear hk); (try clear hi); have hnb79 := NB915_922.out; have hnc79 := NB922_915.out; obtain ⟨hcz80_0, hcz80_1, hcz80_2, hcz80_3, hfz80_0, hfz80_1, hfz80_2, hfz80_3⟩ := cz4 BK915.out))
         refine bodyPost_ret (results_ctt rfl _ _ gb915 25 #[.int .i64 0, .int .u64 0, .string (⟨#[]⟩ : ByteArray), .slice none 0 0] (0, 0) _ rfl (zp4 BK915.out _ _ _ _) Tryd.underlying25 rfl (by kernel_rfl)) rfl ?_
         exact ⟨_, ze, zn, zb⟩
        ·rw [if_neg c74] at H
         have c74b0 : (t927 == 2) = false := beq_eq_false_iff_ne.mpr c74
         have c74b1 : (t927 != 2) = true := bne_iff_ne.mpr c74
         by_cases c81 : t927 = 0
         ·rw [if_pos c81] at H
          have c81b0 : (t927 == 0) = true := beq_iff_eq.mpr c81
          have c81b1 : (t927 != 0) = false := bne_eq_false_iff_eq.mpr c81
          clear c81
          simp only [Option.some.injEq, Prod.mk.injEq] at H
          obtain ⟨rfl, rfl, rfl, rfl, rfl, rfl⟩ := H
          have hnb82 := NB923_915.out
          have hnc82 := NB915_923.out
          have hnb83 := NB923_922.out
          have hnc83 := NB922_923.out
          obtain ⟨hcz84_0, hcz84_1, hcz84_2, hcz84_3, hfz84_0, hfz84_1, hfz84_2, hfz84_3⟩ := cz4 BK923.out
          go_wp2_with (first | ((with_reducible refine gate_callee (f := 47) rfl ?_); refine goesL_ (some 91) rfl rfl Tryd.func47 (by kernel_rfl) rfl #[.agg #[.int .i64 t917, .int .u64 x924001_19, .string x924002_19, .slice none 0 0]] rfl za ?_; (refine (polyglotref16_Check.calls kj19 t917 x924001_19 x924002_19 _ _ ([] : List (Vl)) t927 _ ?side1 ?side2 A73.out).mono ?_); (case side1 => exact Kd.C_nil _ _); (case side2 => exact Nat.le_refl _); rintro e w85 ⟨rfl, hb⟩; refine ⟨_, rfl, ?_⟩; replace BK915 := Aside0.mk (zbb BK915.out hb); replace BK922 := Aside0.mk (zbb BK922.out hb); replace BK923 := Aside0.mk (zbb BK923.out hb); replace HB := Aside0.mk (below_step zb hb); (try clear hb); (try clear hb2); (try clear hk); (try clear hi); obtain ⟨hcz86_0, hcz86_1, hcz86_2, hcz86_3, hfz86_0, hfz86_1, hfz86_2, hfz86_3⟩ := cz4 BK923.out; have hnb87 := NB915_922.out; have hnc87 := NB922_915.out; obtain ⟨hcz88_0, hcz88_1, hcz88_2, hcz88_3, hfz88_0, hfz88_1, hfz88_2, hfz88_3⟩ := cz4 BK915.out))
          refine bodyPost_ret (results_ctt rfl _ _ gb915 25 #[.int .i64 t917, .int .u64 x924001_19, .string x924002_19, .slice none 0 0] (0, 0) _ rfl (zp4 BK915.out _ _ _ _) Tryd.underlying25 rfl (by kernel_rfl)) rfl ?_
          exact ⟨_, ze, zn, zb⟩
         ·rw [if_neg c81] at H
          have c81b0 : (t927 == 0) = false := beq_eq_false_iff_ne.mpr c81
          have c81b1 : (t927 != 0) = true := bne_iff_ne.mpr c81
          simp only [Option.some.injEq, Prod.mk.injEq] at H
          obtain ⟨rfl, rfl, rfl, rfl, rfl, rfl⟩ := H
          have hnb89 := NB923_915.out
          have hnc89 := NB915_923.out
          have hnb90 := NB923_922.out
          have hnc90 := NB922_923.out
          obtain ⟨hcz91_0, hcz91_1, hcz91_2, hcz91_3, hfz91_0, hfz91_1, hfz91_2, hfz91_3⟩ := cz4 BK923.out
          go_wp2_with (first | ((with_reducible refine gate_callee (f := 47) rfl ?_); refine goesL_ (some 91) rfl rfl Tryd.func47 (by kernel_rfl) rfl #[.agg #[.int .i64 t917, .int .u64 x924001_19, .string x924002_19, .slice none 0 0]] rfl za ?_; (refine (polyglotref16_Check.calls kj19 t917 x924001_19 x924002_19 _ _ ([] : List (Vl)) t927 _ ?side1 ?side2 A73.out).mono ?_); (case side1 => exact Kd.C_nil _ _); (case side2 => exact Nat.le_refl _); rintro e w92 ⟨rfl, hb⟩; refine ⟨_, rfl, ?_⟩; replace BK915 := Aside0.mk (zbb BK915.out hb); replace BK922 := Aside0.mk (zbb BK922.out hb); replace BK923 := Aside0.mk (zbb BK923.out hb); replace HB := Aside0.mk (below_step zb hb); (try clear hb); (try clear hb2); (try clear hk); (try clear hi); have hnb93 := NB915_922.out; have hnc93 := NB922_915.out; obtain ⟨hcz94_0, hcz94_1, hcz94_2, hcz94_3, hfz94_0, hfz94_1, hfz94_2, hfz94_3⟩ := cz4 BK915.out))
          refine bodyPost_ret (results_ctt rfl _ _ gb915 25 #[.int .i64 0, .int .u64 0, .string (⟨#[]⟩ : ByteArray), .slice none 0 0] (0, 0) _ rfl (zp4 BK915.out _ _ _ _) Tryd.underlying25 rfl (by kernel_rfl)) rfl ?_
          exact ⟨_, ze, zn, zb⟩
end Go.Proofs.YtekpofpgkokoiaaDoor.Q
