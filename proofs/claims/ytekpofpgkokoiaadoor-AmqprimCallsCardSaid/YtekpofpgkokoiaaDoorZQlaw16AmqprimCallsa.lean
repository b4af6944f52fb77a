/- A part of this claim: what its theorem leans on. -/
import Derived.Test.YtekpofpgkokoiaaDoorZQ0
import Derived.Test.YtekpofpgkokoiaaDoorZZz
import Derived.Test.YtekpofpgkokoiaaDoorZQpolyglotkitaD
import Derived.Test.YtekpofpgkokoiaaDoorZQlaw16livesaD
import Derived.Test.YtekpofpgkokoiaaDoorZQkitSameaD
import Derived.Test.YtekpofpgkokoiaaDoorZQpolyglotref16aD
import Derived.Test.YtekpofpgkokoiaaDoorZQref16ofaD
import Derived.Test.YtekpofpgkokoiaaDoorZQamqprimaD
import Derived.Test.YtekpofpgkokoiaaDoorZQref16bigaD
import Derived.Test.YtekpofpgkokoiaaDoorZQlaw16AmqprimCallsaD
import Derived.Test.YtekpofpgkokoiaaDoorZQeq
import Derived.Test.YtekpofpgkokoiaaDoorZQpolyglotkita
import Derived.Test.YtekpofpgkokoiaaDoorZQlaw16livesa
import Derived.Test.YtekpofpgkokoiaaDoorZQkitSamea
import Derived.Test.YtekpofpgkokoiaaDoorZQpolyglotref16a
import Derived.Test.YtekpofpgkokoiaaDoorZQref16ofa
import Derived.Test.YtekpofpgkokoiaaDoorZQamqprima
import Derived.Test.YtekpofpgkokoiaaDoorZQkitIntsa
import Derived.Test.YtekpofpgkokoiaaDoorZQkitOwna
namespace Go.Proofs.YtekpofpgkokoiaaDoor.Q
open Go.RowKit Go.Proofs.YtekpofpgkokoiaaDoor.M Go.Proofs.YtekpofpgkokoiaaDoorW.PrintWords Go.Proofs.YtekpofpgkokoiaaDoorW.PrintLast Go.Proofs.YtekpofpgkokoiaaDoorW.PrintMore
attribute [local go_sem] max2_int min2_int max_two min_two max_three min_three max_four min_four
set_option linter.unusedVariables false
set_option linter.unusedSimpArgs false
attribute [local go_sem high] eqA34
def polyglotlaw16_AmqprimCalls.T13 : Bool × List (List Nat × List Nat) := (true, [([], []), ([], []), ([0, 1], [0, 1]), ([2], [2]), ([3], [3]), ([3], [3]), ([4, 5, 3], [3, 4, 5]), ([3, 6], [3, 6]), ([7, 3], [7]), ([8], [8]), ([8], [8]), ([9, 10, 8], [8, 9, 10]), ([8, 11], [8, 11]), ([12, 8], [12]), ([13], [13]), ([13], [13]), ([14, 15, 13], [13, 14, 15]), ([13, 16], [13, 16]), ([17, 13], [17]), ([18], [18]), ([18], [18]), ([19, 20, 18], [18, 19, 20]), ([18, 21], [18, 21]), ([22, 18], [22]), ([23], [23]), ([23], [23]), ([24, 25, 23], [23, 24, 25]), ([23, 26], [23, 26]), ([27, 23], [27]), ([28], [28]), ([28], [28]), ([29, 30, 28, 28], [28, 29, 30]), ([28, 31], [28, 31]), ([32, 31], [32]), ([33], [33]), ([33], [33]), ([34, 35, 33], [33, 34, 35]), ([33, 36], [33, 36]), ([37, 33], [37]), ([38], [38]), ([38], [38]), ([39, 40, 38], [38, 39, 40]), ([38, 41], [38, 41]), ([42, 38], [42]), ([43], [43]), ([44, 43, 43], [43, 44]), ([43], [43]), ([46, 45, 43], [43, 46]), ([45, 47, 47, 43], [43, 45, 47]), ([43, 48], [43, 48]), ([49, 48], [49]), ([50], [50]), ([51, 50, 50], [50, 51]), ([50], [50]), ([53, 52, 50], [50, 53]), ([52, 54, 50], [50, 52, 54]), ([50, 55], [50, 55]), ([56, 54], [56]), ([57], [57]), ([57], [57]), ([58, 59, 57, 57], [57, 58, 59]), ([57], [57]), ([57], [57]), ([61, 62, 60, 57], [57, 61, 62]), ([60, 63, 57], [57, 60, 63]), ([57, 64], [57, 64]), ([65, 63, 0, 1, 2, 3, 4, 5, 6, 7, 8, 9, 10, 11, 12, 13, 14, 15, 16, 17, 18, 19, 20, 21, 22, 23, 24, 25, 26, 27, 28, 29, 30, 31, 32, 33, 34, 35, 36, 37, 38, 39, 40, 41, 42, 43, 44, 45, 46, 47, 48, 49, 50, 51, 52, 53, 54, 55, 56, 57, 58, 59, 60, 61, 62, 63, 64, 65], [65])])
def polyglotlaw16_AmqprimCalls.B13 : List Nat := [0, 0, 3, 7, 15, 15, 63, 127, 255, 511, 511, 2047, 4095, 8191, 16383, 16383, 65535, 131071, 262143, 524287, 524287, 2097151, 4194303, 8388607, 16777215, 16777215, 67108863, 134217727, 268435455, 536870911, 536870911, 2147483647, 4294967295, 8589934591, 17179869183, 17179869183, 68719476735, 137438953471, 274877906943, 549755813887, 549755813887, 2199023255551, 4398046511103, 8796093022207, 17592186044415, 35184372088831, 17592186044415, 140737488355327, 281474976710655, 562949953421311, 1125899906842623, 2251799813685247, 4503599627370495, 2251799813685247, 18014398509481983, 36028797018963967, 72057594037927935, 144115188075855871, 288230376151711743, 288230376151711743, 1152921504606846975, 288230376151711743, 288230376151711743, 9223372036854775807, 18446744073709551615, 36893488147419103231, 73786976294838206463]
theorem polyglotlaw16_AmqprimCalls.tab13 : rtab .any (opsOf Tryd.f7 13) = polyglotlaw16_AmqprimCalls.T13 := by kernel_rfl
theorem polyglotlaw16_AmqprimCalls.bits13 : waitsOk polyglotlaw16_AmqprimCalls.T13.2 polyglotlaw16_AmqprimCalls.B13 = true := by kernel_rfl
set_option maxHeartbeats 8000000 in
set_option maxRecDepth 100000 in
theorem polyglotlaw16_AmqprimCalls.calls (k : Nat) (a0 : Int) (a1_0 : Int) (a1_1 : Int) (a1_2 : ByteArray) (A1_3 : Option Addr) (c1_3 : Nat) (l1_3 : List (Vl)) (a2 : Int) (a3 : ByteArray) (r : Bool) (w : World) (hT : Tb w) (hr1_3 : Kd.C kV w A1_3 l1_3.length l1_3) (hc1_3 : l1_3.length ≤ c1_3) (h : polyglotlaw16_AmqprimCalls.f k a0 a1_0 a1_1 a1_2 l1_3 a2 a3 = some r) :
    Calls Tryd.prog 7 #[.int .i64 a0, .agg #[.int .i64 a1_0, .int .u64 a1_1, .string a1_2, .slice A1_3 l1_3.length c1_3], .int .i64 a2, .string a3] w fun e w' => e = .returned (.bool r) ∧ Below w.heap.size w w' := by
  have hu25 := Tryd.underlying25
  have hu34 := Tryd.underlying34
  have HR1_3 := Aside0.mk hr1_3
  have HC1_3 := Aside0.mk hc1_3
  clear hr1_3 hc1_3
  have HB := Aside0.mk (Below.refl w.heap.size w)
  have HT := Aside0.mk hT
  clear hT
  have H : ((polyglotlaw16_lives.f).bind fun t929 => (if t929 = true then ((polyglotkit_LightValue.f k a1_0 a1_1 a1_2 l1_3).bind fun t930 => (if t930 = true then (polyglotlaw16_AmqprimCalls.j0 k a0 a2 a3 (decide ((a3.size : Int) > 600)) a1_0 a1_1 a1_2 l1_3) else (polyglotlaw16_AmqprimCalls.j0 k a0 a2 a3 true a1_0 a1_1 a1_2 l1_3))) else (none))) = some r := h
  clear h
  obtain ⟨t929, A5, H⟩ := zbd H
  by_cases c6 : t929 = true
  ·subst c6
   replace H := zyes H
   have HC7 := Aside0.mk H
   clear H
   go_enter Tryd.func7, Tryd.ntmps7
   go_upto_region 3 with (first | ((with_reducible refine gate_dst (N := 5) rfl ?_); (try (refine gate_guard (by rfl) ?_; dsimp only)); refine box_event rfl (N := 5) rfl (cs := #[.int .i64 a1_0, .int .u64 a1_1, .string a1_2, .slice A1_3 l1_3.length c1_3]) (t := 25) zh ?_; intro gb928 hg w8 hbox hb; have BK928 := Aside0.mk (hbox); have GW928 := Aside0.mk ((zge (w := w) hg)); have GE928 := Aside0.mk ((zge (w := w) hg)); replace HB := Aside0.mk (below_step zb hb); clear hb hbox hg) | ((with_reducible refine gate_callee (f := 18) rfl ?_); refine goesL_ (some 27) rfl rfl Tryd.func18 (by kernel_rfl) rfl #[] rfl za ?_; (with_reducible refine (polyglotlaw16_lives.calls  true _ ?side1 A5.out).mono ?_); (case side1 => exact HT.out.below zb); rintro e w9 ⟨rfl, hb⟩; refine ⟨_, rfl, ?_⟩; replace BK928 := Aside0.mk (zbb BK928.out hb); replace HB := Aside0.mk (below_step zb hb); (try clear hb); (try clear hb2); (try clear hk); (try clear hi)))
   (try simp only [Act.put, List.setIfInBounds_toArray, List.set_cons_zero, List.set_cons_succ])
   go_cut [36] (fun v36 wc => ∃ (kq : Nat) (x36_6 : Bool), v36 = .bool x36_6 ∧ Aside0 (polyglotlaw16_AmqprimCalls.j0 kq a0 a2 a3 x36_6 a1_0 a1_1 a1_2 l1_3 = some r) ∧ Aside0 (kq ≤ k) ∧ Aside0 (wc.heap[gb928]? = some (.cells #[.int .i64 a1_0, .int .u64 a1_1, .string a1_2, (.slice A1_3 l1_3.length c1_3)] 25 (0, 0))) ∧ Aside0 (Below w.heap.size w wc))
   case first =>
    have H := HC7.out
    clear HC7
    obtain ⟨t930, A10, H⟩ := zbd H
    by_cases c11 : t930 = true
    ·subst c11
     replace H := zyes H
     have H' := Aside0.mk H
     clear H
     obtain ⟨hcz12_0, hcz12_1, hcz12_2, hcz12_3, hfz12_0, hfz12_1, hfz12_2, hfz12_3⟩ := cz4 BK928.out
     go_wp2_with (first | ((with_reducible refine gate_callee (f := 19) rfl ?_); refine goesL_ (some 30) rfl rfl Tryd.func19 (by kernel_rfl) rfl #[.agg #[.int .i64 a1_0, .int .u64 a1_1, .string a1_2, .slice A1_3 l1_3.length c1_3]] rfl za ?_; (with_reducible refine (polyglotkit_LightValue.calls k a1_0 a1_1 a1_2 _ _ l1_3 true _ ?side1 ?side2 A10.out).mono ?_); (case side1 => repeat (first | exact (Kd.C_below HR1_3.out HB.out) | (with_reducible refine Kd.C_alloc ?_ _) | (with_reducible refine Kd.C_drewN ?_ _) | (with_reducible refine Kd.C_drew ?_))); (case side2 => exact HC1_3.out); rintro e w13 ⟨rfl, hb⟩; refine ⟨_, rfl, ?_⟩; replace BK928 := Aside0.mk (zbb BK928.out hb); replace HB := Aside0.mk (below_step zb hb); (try clear hb); (try clear hb2); (try clear hk); (try clear hi)))
     go_meet
     case rel => exact ⟨_, (decide ((a3.size : Int) > 600)), zt, H', ⟨zo⟩, ⟨zk BK928.out⟩, ⟨zb⟩⟩
    ·replace c11 := Bool.eq_false_iff.mpr c11
     subst c11
     replace H := zno H
     have H' := Aside0.mk H
     clear H
     obtain ⟨hcz14_0, hcz14_1, hcz14_2, hcz14_3, hfz14_0, hfz14_1, hfz14_2, hfz14_3⟩ := cz4 BK928.out
     go_wp2_with (first | ((with_reducible refine gate_callee (f := 19) rfl ?_); refine goesL_ (some 30) rfl rfl Tryd.func19 (by kernel_rfl) rfl #[.agg #[.int .i64 a1_0, .int .u64 a1_1, .string a1_2, .slice A1_3 l1_3.length c1_3]] rfl za ?_; (with_reducible refine (polyglotkit_LightValue.calls k a1_0 a1_1 a1_2 _ _ l1_3 false _ ?side1 ?side2 A10.out).mono ?_); (case side1 => repeat (first | exact (Kd.C_below HR1_3.out HB.out) | (with_reducible refine Kd.C_alloc ?_ _) | (with_reducible refine Kd.C_drewN ?_ _) | (with_reducible refine Kd.C_drew ?_))); (case side2 => exact HC1_3.out); rintro e w15 ⟨rfl, hb⟩; refine ⟨_, rfl, ?_⟩; replace BK928 := Aside0.mk (zbb BK928.out hb); replace HB := Aside0.mk (below_step zb hb); (try clear hb); (try clear hb2); (try clear hk); (try clear hi)))
     go_meet
     case rel => exact ⟨_, (true), zt, H', ⟨zo⟩, ⟨zk BK928.out⟩, ⟨zb⟩⟩
   case rest =>
    clear HC7
    try clear c6
    obtain ⟨kq, x36_6, rfl, HA, HJ6, BK928, HB⟩ := hcut
    cases kq with
    | zero => exact absurd HA.out (by simp [polyglotlaw16_AmqprimCalls.j0])
    | succ kj6 =>
     have H := HA.out
     clear HA
     simp only [polyglotlaw16_AmqprimCalls.j0] at H
     by_cases c16 : x36_6 = true
     ·subst c16
      replace H := zyes H
      obtain rfl := Option.some.inj H
      go_wp2
      go_ret
      exact ⟨ze, zb⟩
     ·replace c16 := Bool.eq_false_iff.mpr c16
      subst c16
      replace H := zno H
      obtain ⟨⟨t931, t932, t933, t934, t935, t936⟩, A17, H⟩ := zbd H
      dsimp only at H
      obtain ⟨⟨t938, t939, t940, t941, t942, t943⟩, A18, H⟩ := zbd H
      dsimp only at H
      obtain ⟨⟨t945, t946, t947, t948⟩, A19, H⟩ := zbd H
      dsimp only at H
      obtain ⟨⟨t951, t952⟩, A20, H⟩ := zbd H
      dsimp only at H
      obtain ⟨⟨t953, t954⟩, A21, H⟩ := zbd H
      dsimp only at H
      obtain ⟨⟨t955, t956, t957, t958⟩, A22, H⟩ := zbd H
      dsimp only at H
      obtain ⟨⟨t961, t962⟩, A23, H⟩ := zbd H
      dsimp only at H
      obtain ⟨⟨t963, t964⟩, A24, H⟩ := zbd H
      dsimp only at H
      obtain ⟨⟨t965, t966, t967, t968, t971, t972⟩, A25, H⟩ := zbd H
      dsimp only at H
      obtain ⟨⟨t974, t975, t976, t977, t980, t981⟩, A26, H⟩ := zbd H
      dsimp only at H
      by_cases c27 : (t931 == t938 && (t932 == t939 && (t933 == t940 && (t934 == t941 && (t935 == t942))))) = true
      ·rw [if_pos c27] at H
       have c27b0 : (t931 == t938 && (t932 == t939 && (t933 == t940 && (t934 == t941 && (t935 == t942))))) = true := c27
       (try (have c27b1 : decide (t931 = t938 && (t932 == t939 && (t933 == t940 && (t934 == t941 && (t935 == t942))))) = true := by simpa using c27))
       (try (have c27b2 : (t931 == t938 && (t932 == t939 && (t933 == t940 && (t934 == t941 && (t935 == t942))))) = true := by simpa using c27))
       clear c27
       by_cases c28 : (t936 == t943) = true
       ·rw [if_pos c28] at H
        have c28b0 : (t936 == t943) = true := c28
        (try (have c28b1 : decide (t936 = t943) = true := by simpa using c28))
        (try (have c28b2 : (t936 == t943) = true := by simpa using c28))
        clear c28
        by_cases c29 : t951 = t953
        ·rw [if_pos c29] at H
         have c29b0 : (t951 == t953) = true := beq_iff_eq.mpr c29
         have c29b1 : (t951 != t953) = false := bne_eq_false_iff_eq.mpr c29
         clear c29
         by_cases c30 : t952 = t954
         ·rw [if_pos c30] at H
          have c30b0 : (t952 == t954) = true := beq_iff_eq.mpr c30
          have c30b1 : (t952 != t954) = false := bne_eq_false_iff_eq.mpr c30
          clear c30
          by_cases c31 : t961.toList = t963.toList
          ·rw [if_pos c31] at H
           have c31b0 : (t961.toList == t963.toList) = true := beq_iff_eq.mpr c31
           have c31b1 : (t961.toList != t963.toList) = false := bne_eq_false_iff_eq.mpr c31
           clear c31
           by_cases c32 : t962 = t964
           ·rw [if_pos c32] at H
            have c32b0 : (t962 == t964) = true := beq_iff_eq.mpr c32
            have c32b1 : (t962 != t964) = false := bne_eq_false_iff_eq.mpr c32
            clear c32
            obtain ⟨t983, A33, H⟩ := zbd H
            by_cases c34 : t983 = true
            ·subst c34
             replace H := zyes H
             by_cases c35 : t971 = t980
             ·rw [if_pos c35] at H
              have c35b0 : (t971 == t980) = true := beq_iff_eq.mpr c35
              have c35b1 : (t971 != t980) = false := bne_eq_false_iff_eq.mpr c35
              clear c35
              by_cases c36 : t972 = t981
              ·rw [if_pos c36] at H
               have c36b0 : (t972 == t981) = true := beq_iff_eq.mpr c36
               have c36b1 : (t972 != t981) = false := bne_eq_false_iff_eq.mpr c36
               clear c36
               obtain ⟨t984, A37, H⟩ := zbd H
               obtain ⟨t987, A38, H⟩ := zbd H
               obtain ⟨t990, A39, H⟩ := zbd H
               by_cases c40 : t990 = true
               ·subst c40
                replace H := zyes H
                obtain ⟨t991, A41, H⟩ := zbd H
                obtain ⟨t992, A42, H⟩ := zbd H
                by_cases c43 : t991 = t992
                ·rw [if_pos c43] at H
                 have c43b0 : (t991 == t992) = true := beq_iff_eq.mpr c43
                 have c43b1 : (t991 != t992) = false := bne_eq_false_iff_eq.mpr c43
                 clear c43
                 obtain ⟨t993, A44, H⟩ := zbd H
                 obtain ⟨t994, A45, H⟩ := zbd H
                 obtain rfl := Option.some.inj H
                 try go_wp2_with (first | ((with_reducible refine gate_callee (f := 23) rfl ?_); refine goesL_ (some 39) rfl rfl Tryd.func23 (by kernel_rfl) rfl #[.int .i64 a0] rfl za ?_; (with_reducible refine (amqprim_Of.calls a0 t931 t932 t933 t934 t935 t936 _ A17.out).mono ?_); rintro e w46 ⟨rfl, hb⟩; refine ⟨_, rfl, ?_⟩; replace BK928 := Aside0.mk (zbb BK928.out hb); replace HB := Aside0.mk (below_step zb hb); (try clear hb); (try clear hb2); (try clear hk); (try clear hi)) | ((with_reducible refine gate_dst (N := 9) rfl ?_); (try (refine gate_guard (by rfl) ?_; dsimp only)); refine box_event rfl (N := 9) rfl (cs := #[.int .i64 0, .int .i64 0, .int .i64 0, .bool false, .bool false]) (t := 34) zh ?_; intro gb937 hg w47 hbox hb; have BK937 := Aside0.mk (hbox); have GW937 := Aside0.mk ((zge (w := w) hg)); have GE937 := Aside0.mk ((zge (w := w) hg)); have NB928_937 := Aside0.mk ((znl BK928.out hg)); have NB937_928 := Aside0.mk ((zng BK928.out hg)); replace BK928 := Aside0.mk (zbb BK928.out hb); replace HB := Aside0.mk (below_step zb hb); clear hb hbox hg; have hnb48 := NB937_928.out; have hnc48 := NB928_937.out; obtain ⟨hcz49_0, hcz49_1, hcz49_2, hcz49_3, hcz49_4, hfz49_0, hfz49_1, hfz49_2, hfz49_3, hfz49_4⟩ := cz5 BK937.out) | ((with_reducible refine gate_callee (f := 40) rfl ?_); refine goesL_ (some 44) rfl rfl Tryd.func40 (by kernel_rfl) rfl #[.int .i64 a0] rfl za ?_; (with_reducible refine (polyglotref16_Of.calls kj6 a0 t938 t939 t940 t941 t942 t943 _ A18.out).mono ?_); rintro e w50 ⟨rfl, hb⟩; refine ⟨_, rfl, ?_⟩; replace BK928 := Aside0.mk (zbb BK928.out hb); replace BK937 := Aside0.mk (blk_below (g := gb937) (o := .cells #[.int .i64 t931, .int .i64 t932, .int .i64 t933, .bool t934, .bool t935] 34 (0, 0)) (zp5 BK937.out _ _ _ _ _) hb); replace HB := Aside0.mk (below_step zb hb); (try clear hb); (try clear hb2); (try clear hk); (try clear hi)) | ((with_reducible refine gate_dst (N := 11) rfl ?_); (try (refine gate_guard (by rfl) ?_; dsimp only)); refine box_event rfl (N := 11) rfl (cs := #[.int .i64 0, .int .i64 0, .int .i64 0, .bool false, .bool false]) (t := 34) zh ?_; intro gb944 hg w51 hbox hb; have BK944 := Aside0.mk (hbox); have GW944 := Aside0.mk ((zge (w := w) hg)); have GE944 := Aside0.mk ((zge (w := w) hg)); have NB928_944 := Aside0.mk ((znl BK928.out hg)); have NB944_928 := Aside0.mk ((zng BK928.out hg)); replace BK928 := Aside0.mk (zbb BK928.out hb); have NB937_944 := Aside0.mk ((znl BK937.out hg)); have NB944_937 := Aside0.mk ((zng BK937.out hg)); replace BK937 := Aside0.mk (zbb BK937.out hb); replace HB := Aside0.mk (below_step zb hb); clear hb hbox hg; have hnb52 := NB944_928.out; have hnc52 := NB928_944.out; have hnb53 := NB944_937.out; have hnc53 := NB937_944.out; obtain ⟨hcz54_0, hcz54_1, hcz54_2, hcz54_3, hcz54_4, hfz54_0, hfz54_1, hfz54_2, hfz54_3, hfz54_4⟩ := cz5 BK944.out; obtain ⟨hcz55_0, hcz55_1, hcz55_2, hcz55_3, hfz55_0, hfz55_1, hfz55_2, hfz55_3⟩ := cz4 BK928.out) | ((with_reducible refine gate_callee (f := 42) rfl ?_); refine goesL_ (some 49) rfl rfl Tryd.func42 (by kernel_rfl) rfl #[.agg #[.int .i64 a1_0, .int .u64 a1_1, .string a1_2, .slice A1_3 l1_3.length c1_3]] rfl za ?_; (with_reducible refine (polyglotkit_OwnValue.calls kj6 a1_0 a1_1 a1_2 _ _ l1_3 t945 t946 t947 t948 _ ?side1 ?side2 A19.out).mono ?_); (case side1 => exact Kd.C_below HR1_3.out zb); (case side2 => exact HC1_3.out); rintro e w56 ⟨v949, rfl, ho0, hb⟩; refine ⟨_, rfl, ?_⟩; have HO950 := Aside0.mk (Kd.R_lower (Kd.R_newB ho0 (g := gb928) (o := .cells #[.int .i64 a1_0, .int .u64 a1_1, .string a1_2, .slice A1_3 l1_3.length c1_3] 25 (0, 0)) (zk BK928.out)) (below_size zb)); replace BK928 := Aside0.mk (zbb BK928.out hb); replace BK937 := Aside0.mk (zbb BK937.out hb); replace BK944 := Aside0.mk (blk_below (g := gb944) (o := .cells #[.int .i64 t938, .int .i64 t939, .int .i64 t940, .bool t941, .bool t942] 34 (0, 0)) (zp5 BK944.out _ _ _ _ _) hb); replace HB := Aside0.mk (below_step zb hb); (try clear hb); (try clear hb2); (try clear hk); (try clear hi); (try clear ho0); obtain ⟨Ao57, co57, eo57⟩ := Kd.R_slice HO950.out; subst eo57) | ((with_reducible refine gate_callee (f := 41) rfl ?_); refine goesL_ (some 50) rfl rfl Tryd.func41 (by kernel_rfl) rfl #[.agg #[.int .i64 t945, .int .u64 t946, .string t947, .slice Ao57 t948.length co57]] rfl za ?_; (with_reducible refine (amqprim_Least.calls t945 t946 t947 _ _ t948 t951 t952 _ ?side1 ?side2 ?side3 A20.out).mono ?_); (case side1 => exact HT.out.below zb); (case side2 => repeat (first | exact (Kd.R_reads' HO950.out).2.2 | (with_reducible refine Kd.C_alloc ?_ _) | (with_reducible refine Kd.C_drewN ?_ _) | (with_reducible refine Kd.C_drew ?_))); (case side3 => exact (Kd.R_reads' HO950.out).2.1); rintro e w58 ⟨rfl, hb⟩; refine ⟨_, rfl, ?_⟩; replace HO950 := Aside0.mk (Kd.R_below (zr HO950.out) hb); replace BK928 := Aside0.mk (zbb BK928.out hb); replace BK937 := Aside0.mk (zbb BK937.out hb); replace BK944 := Aside0.mk (zbb BK944.out hb); replace HB := Aside0.mk (below_step zb hb); (try clear hb); (try clear hb2); (try clear hk); (try clear hi); obtain ⟨hcz59_0, hcz59_1, hcz59_2, hcz59_3, hfz59_0, hfz59_1, hfz59_2, hfz59_3⟩ := cz4 BK928.out) | ((with_reducible refine gate_callee (f := 43) rfl ?_); refine goesL_ (some 55) rfl rfl Tryd.func43 (by kernel_rfl) rfl #[.agg #[.int .i64 a1_0, .int .u64 a1_1, .string a1_2, .slice A1_3 l1_3.length c1_3]] rfl za ?_; (with_reducible refine (polyglotref16_Least.calls kj6 a1_0 a1_1 a1_2 _ _ l1_3 t953 t954 _ ?side1 ?side2 A21.out).mono ?_); (case side1 => repeat (first | exact (Kd.C_below HR1_3.out HB.out) | (with_reducible refine Kd.C_alloc ?_ _) | (with_reducible refine Kd.C_drewN ?_ _) | (with_reducible refine Kd.C_drew ?_))); (case side2 => exact HC1_3.out); rintro e w60 ⟨rfl, hb⟩; refine ⟨_, rfl, ?_⟩; replace HO950 := Aside0.mk (Kd.R_below (zr HO950.out) hb); replace BK928 := Aside0.mk (zbb BK928.out hb); replace BK937 := Aside0.mk (zbb BK937.out hb); replace BK944 := Aside0.mk (zbb BK944.out hb); replace HB := Aside0.mk (below_step zb hb); (try clear hb); (try clear hb2); (try clear hk); (try clear hi); obtain ⟨hcz61_0, hcz61_1, hcz61_2, hcz61_3, hfz61_0, hfz61_1, hfz61_2, hfz61_3⟩ := cz4 BK928.out) | ((with_reducible refine gate_callee (f := 42) rfl ?_); refine goesL_ (some 61) rfl rfl Tryd.func42 (by kernel_rfl) rfl #[.agg #[.int .i64 a1_0, .int .u64 a1_1, .string a1_2, .slice A1_3 l1_3.length c1_3]] rfl za ?_; (with_reducible refine (polyglotkit_OwnValue.calls kj6 a1_0 a1_1 a1_2 _ _ l1_3 t955 t956 t957 t958 _ ?side1 ?side2 A22.out).mono ?_); (case side1 => repeat (first | exact (Kd.C_below HR1_3.out HB.out) | (with_reducible refine Kd.C_alloc ?_ _) | (with_reducible refine Kd.C_drewN ?_ _) | (with_reducible refine Kd.C_drew ?_))); (case side2 => exact HC1_3.out); rintro e w62 ⟨v959, rfl, ho0, hb⟩; refine ⟨_, rfl, ?_⟩; have HO960 := Aside0.mk (Kd.R_lower (Kd.R_newB (Kd.R_new' ho0 (Kd.R_lt (zr HO950.out))) (g := gb928) (o := .cells #[.int .i64 a1_0, .int .u64 a1_1, .string a1_2, .slice A1_3 l1_3.length c1_3] 25 (0, 0)) (zk BK928.out)) (below_size zb)); replace HO950 := Aside0.mk (Kd.R_elder' (zr HO950.out) (Kd.R_base ho0) hb); replace BK928 := Aside0.mk (zbb BK928.out hb); replace BK937 := Aside0.mk (zbb BK937.out hb); replace BK944 := Aside0.mk (zbb BK944.out hb); replace HB := Aside0.mk (below_step zb hb); (try clear hb); (try clear hb2); (try clear hk); (try clear hi); (try clear ho0); obtain ⟨Ao63, co63, eo63⟩ := Kd.R_slice HO960.out; subst eo63) | ((with_reducible refine gate_callee (f := 25) rfl ?_); refine goesL_ (some 62) rfl rfl Tryd.func25 (by kernel_rfl) rfl #[.int .i64 a0, .agg #[.int .i64 t955, .int .u64 t956, .string t957, .slice Ao63 t958.length co63]] rfl za ?_; (with_reducible refine (amqprim_Put.calls a0 t955 t956 t957 _ _ t958 t961 t962 _ ?side1 ?side2 ?side3 A23.out).mono ?_); (case side1 => exact HT.out.below zb); (case side2 => repeat (first | exact (Kd.R_reads' HO960.out).2.2 | (with_reducible refine Kd.C_alloc ?_ _) | (with_reducible refine Kd.C_drewN ?_ _) | (with_reducible refine Kd.C_drew ?_))); (case side3 => exact (Kd.R_reads' HO960.out).2.1); rintro e w64 ⟨rfl, hb⟩; refine ⟨_, rfl, ?_⟩; replace HO950 := Aside0.mk (Kd.R_below (zr HO950.out) hb); replace HO960 := Aside0.mk (Kd.R_below (zr HO960.out) hb); replace BK928 := Aside0.mk (zbb BK928.out hb); replace BK937 := Aside0.mk (zbb BK937.out hb); replace BK944 := Aside0.mk (zbb BK944.out hb); replace HB := Aside0.mk (below_step zb hb); (try clear hb); (try clear hb2); (try clear hk); (try clear hi); obtain ⟨hcz65_0, hcz65_1, hcz65_2, hcz65_3, hfz65_0, hfz65_1, hfz65_2, hfz65_3⟩ := cz4 BK928.out) | ((with_reducible refine gate_callee (f := 44) rfl ?_); refine goesL_ (some 68) rfl rfl Tryd.func44 (by kernel_rfl) rfl #[.int .i64 a0, .agg #[.int .i64 a1_0, .int .u64 a1_1, .string a1_2, .slice A1_3 l1_3.length c1_3]] rfl za ?_; (with_reducible refine (polyglotref16_Put.calls kj6 a0 a1_0 a1_1 a1_2 _ _ l1_3 t963 t964 _ ?side1 ?side2 A24.out).mono ?_); (case side1 => repeat (first | exact (Kd.C_below HR1_3.out HB.out) | (with_reducible refine Kd.C_alloc ?_ _) | (with_reducible refine Kd.C_drewN ?_ _) | (with_reducible refine Kd.C_drew ?_))); (case side2 => exact HC1_3.out); rintro e w66 ⟨rfl, hb⟩; refine ⟨_, rfl, ?_⟩; replace HO950 := Aside0.mk (Kd.R_below (zr HO950.out) hb); replace HO960 := Aside0.mk (Kd.R_below (zr HO960.out) hb); replace BK928 := Aside0.mk (zbb BK928.out hb); replace BK937 := Aside0.mk (zbb BK937.out hb); replace BK944 := Aside0.mk (zbb BK944.out hb); replace HB := Aside0.mk (below_step zb hb); (try clear hb); (try clear hb2); (try clear hk); (try clear hi)) | ((with_reducible refine gate_callee (f := 37) rfl ?_); refine goesL_ (some 74) rfl rfl Tryd.func37 (by kernel_rfl) rfl #[.int .i64 a0, .string a3] rfl za ?_; (with_reducible refine (amqprim_Get.calls kj6 a0 a3 t965 t966 t967 t968 t971 t972 _ ?side1 A25.out).mono ?_); (case side1 => exact HT.out.below zb); rintro e w67 ⟨v969, rfl, ho0, hb⟩; refine ⟨_, rfl, ?_⟩; have HO970 := Aside0.mk (Kd.R_lower (Kd.R_newB (Kd.R_new' (Kd.R_new' ho0 (Kd.R_lt (zr HO950.out))) (Kd.R_lt (zr HO960.out))) (g := gb928) (o := .cells #[.int .i64 a1_0, .int .u64 a1_1, .string a1_2, .slice A1_3 l1_3.length c1_3] 25 (0, 0)) (zk BK928.out)) (below_size zb)); replace HO950 := Aside0.mk (Kd.R_elder' (zr HO950.out) (Kd.R_base ho0) hb); replace HO960 := Aside0.mk (Kd.R_elder' (zr HO960.out) (Kd.R_base ho0) hb); replace BK928 := Aside0.mk (zbb BK928.out hb); replace BK937 := Aside0.mk (zbb BK937.out hb); replace BK944 := Aside0.mk (zbb BK944.out hb); replace HB := Aside0.mk (below_step zb hb); (try clear hb); (try clear hb2); (try clear hk); (try clear hi); (try clear ho0)) | ((with_reducible refine gate_dst (N := 21) rfl ?_); (try (refine gate_guard (by rfl) ?_; dsimp only)); refine box_event rfl (N := 21) rfl (cs := #[.int .i64 0, .int .u64 0, .string (⟨#[]⟩ : ByteArray), .slice none 0 0]) (t := 25) zh ?_; intro gb973 hg w68 hbox hb; replace HO950 := Aside0.mk (Kd.R_below (Kd.R_elderB (zr HO950.out) gb973 (Nat.le_of_eq hg.symm)) hb); replace HO960 := Aside0.mk (Kd.R_below (Kd.R_elderB (zr HO960.out) gb973 (Nat.le_of_eq hg.symm)) hb); replace HO970 := Aside0.mk (Kd.R_below (Kd.R_elderB (zr HO970.out) gb973 (Nat.le_of_eq hg.symm)) hb); have BK973 := Aside0.mk (hbox); have GW973 := Aside0.mk ((zge (w := w) hg)); have GE973 := Aside0.mk ((zge (w := w) hg)); have NB928_973 := Aside0.mk ((znl BK928.out hg)); have NB973_928 := Aside0.mk ((zng BK928.out hg)); replace BK928 := Aside0.mk (zbb BK928.out hb); have NB937_973 := Aside0.mk ((znl BK937.out hg)); have NB973_937 := Aside0.mk ((zng BK937.out hg)); replace BK937 := Aside0.mk (zbb BK937.out hb); have NB944_973 := Aside0.mk ((znl BK944.out hg)); have NB973_944 := Aside0.mk ((zng BK944.out hg)); replace BK944 := Aside0.mk (zbb BK944.out hb); replace HB := Aside0.mk (below_step zb hb); clear hb hbox hg; have hnb69 := NB973_928.out; have hnc69 := NB928_973.out; have hnb70 := NB973_937.out; have hnc70 := NB937_973.out; have hnb71 := NB973_944.out; have hnc71 := NB944_973.out; obtain ⟨hcz72_0, hcz72_1, hcz72_2, hcz72_3, hfz72_0, hfz72_1, hfz72_2, hfz72_3⟩ := cz4 BK973.out; obtain ⟨Ao73, co73, eo73⟩ := Kd.R_slice HO970.out; subst eo73) | ((with_reducible refine gate_callee (f := 45) rfl ?_); refine goesL_ (some 81) rfl rfl Tryd.func45 (by kernel_rfl) rfl #[.int .i64 a0, .string a3] rfl za ?_; (with_reducible refine (polyglotref16_Get.calls kj6 a0 a3 t974 t975 t976 t977 t980 t981 _ A26.out).mono ?_); rintro e w74 ⟨v978, rfl, ho0, hb⟩; refine ⟨_, rfl, ?_⟩; have HO979 := Aside0.mk (Kd.R_lower (Kd.R_newB (Kd.R_newB (Kd.R_new' (Kd.R_new' (Kd.R_new' ho0 (Kd.R_lt (by (with_reducible repeat (first | apply Kd.R_alloc | apply Kd.R_drewN | apply Kd.R_drew)); exact (Kd.R_mono (Kd.R_far (p := ⟨gb973, 3, none⟩) (Kd.R_far (p := ⟨gb973, 2, none⟩) (Kd.R_far (p := ⟨gb973, 1, none⟩) (Kd.R_far (p := ⟨gb973, 0, none⟩) (Kd.R_mono HO950.out (fun k_ hk => (⟨hk, hk.2⟩ : _ ∧ k_ ≠ gb973))) (fun _ hk => hk.2) (.int .i64 t965)) (fun _ hk => hk.2) (.int .u64 t966)) (fun _ hk => hk.2) (.string t967)) (fun _ hk => hk.2) (.slice Ao73 t968.length co73)) (fun _ h_ => h_.1))))) (Kd.R_lt (by (with_reducible repeat (first | apply Kd.R_alloc | apply Kd.R_drewN | apply Kd.R_drew)); exact (Kd.R_mono (Kd.R_far (p := ⟨gb973, 3, none⟩) (Kd.R_far (p := ⟨gb973, 2, none⟩) (Kd.R_far (p := ⟨gb973, 1, none⟩) (Kd.R_far (p := ⟨gb973, 0, none⟩) (Kd.R_mono HO960.out (fun k_ hk => (⟨hk, hk.2⟩ : _ ∧ k_ ≠ gb973))) (fun _ hk => hk.2) (.int .i64 t965)) (fun _ hk => hk.2) (.int .u64 t966)) (fun _ hk => hk.2) (.string t967)) (fun _ hk => hk.2) (.slice Ao73 t968.length co73)) (fun _ h_ => h_.1))))) (Kd.R_lt (by (with_reducible repeat (first | apply Kd.R_alloc | apply Kd.R_drewN | apply Kd.R_drew)); exact (Kd.R_mono (Kd.R_far (p := ⟨gb973, 3, none⟩) (Kd.R_far (p := ⟨gb973, 2, none⟩) (Kd.R_far (p := ⟨gb973, 1, none⟩) (Kd.R_far (p := ⟨gb973, 0, none⟩) (Kd.R_mono HO970.out (fun k_ hk => (⟨hk, hk.2⟩ : _ ∧ k_ ≠ gb973))) (fun _ hk => hk.2) (.int .i64 t965)) (fun _ hk => hk.2) (.int .u64 t966)) (fun _ hk => hk.2) (.string t967)) (fun _ hk => hk.2) (.slice Ao73 t968.length co73)) (fun _ h_ => h_.1))))) (g := gb928) (o := .cells #[.int .i64 a1_0, .int .u64 a1_1, .string a1_2, .slice A1_3 l1_3.length c1_3] 25 (0, 0)) (zk BK928.out)) (g := gb973) (o := .cells #[.int .i64 t965, .int .u64 t966, .string t967, .slice Ao73 t968.length co73] 25 (0, 0)) (zp4 BK973.out _ _ _ _)) (below_size zb)); replace HO950 := Aside0.mk (Kd.R_elder' (by (with_reducible repeat (first | apply Kd.R_alloc | apply Kd.R_drewN | apply Kd.R_drew)); exact (Kd.R_mono (Kd.R_far (p := ⟨gb973, 3, none⟩) (Kd.R_far (p := ⟨gb973, 2, none⟩) (Kd.R_far (p := ⟨gb973, 1, none⟩) (Kd.R_far (p := ⟨gb973, 0, none⟩) (Kd.R_mono HO950.out (fun k_ hk => (⟨hk, hk.2⟩ : _ ∧ k_ ≠ gb973))) (fun _ hk => hk.2) (.int .i64 t965)) (fun _ hk => hk.2) (.int .u64 t966)) (fun _ hk => hk.2) (.string t967)) (fun _ hk => hk.2) (.slice Ao73 t968.length co73)) (fun _ h_ => h_.1))) (Kd.R_base ho0) hb); replace HO960 := Aside0.mk (Kd.R_elder' (by (with_reducible repeat (first | apply Kd.R_alloc | apply Kd.R_drewN | apply Kd.R_drew)); exact (Kd.R_mono (Kd.R_far (p := ⟨gb973, 3, none⟩) (Kd.R_far (p := ⟨gb973, 2, none⟩) (Kd.R_far (p := ⟨gb973, 1, none⟩) (Kd.R_far (p := ⟨gb973, 0, none⟩) (Kd.R_mono HO960.out (fun k_ hk => (⟨hk, hk.2⟩ : _ ∧ k_ ≠ gb973))) (fun _ hk => hk.2) (.int .i64 t965)) (fun _ hk => hk.2) (.int .u64 t966)) (fun _ hk => hk.2) (.string t967)) (fun _ hk => hk.2) (.slice Ao73 t968.length co73)) (fun _ h_ => h_.1))) (Kd.R_base ho0) hb); replace HO970 := Aside0.mk (Kd.R_elder' (by (with_reducible repeat (first | apply Kd.R_alloc | apply Kd.R_drewN | apply Kd.R_drew)); exact (Kd.R_mono (Kd.R_far (p := ⟨gb973, 3, none⟩) (Kd.R_far (p := ⟨gb973, 2, none⟩) (Kd.R_far (p := ⟨gb973, 1, none⟩) (Kd.R_far (p := ⟨gb973, 0, none⟩) (Kd.R_mono HO970.out (fun k_ hk => (⟨hk, hk.2⟩ : _ ∧ k_ ≠ gb973))) (fun _ hk => hk.2) (.int .i64 t965)) (fun _ hk => hk.2) (.int .u64 t966)) (fun _ hk => hk.2) (.string t967)) (fun _ hk => hk.2) (.slice Ao73 t968.length co73)) (fun _ h_ => h_.1))) (Kd.R_base ho0) hb); replace BK928 := Aside0.mk (zbb BK928.out hb); replace BK937 := Aside0.mk (zbb BK937.out hb); replace BK944 := Aside0.mk (zbb BK944.out hb); replace BK973 := Aside0.mk (blk_below (g := gb973) (o := .cells #[.int .i64 t965, .int .u64 t966, .string t967, .slice Ao73 t968.length co73] 25 (0, 0)) (zp4 BK973.out _ _ _ _) hb); replace HB := Aside0.mk (below_step zb hb); (try clear hb); (try clear hb2); (try clear hk); (try clear hi); (try clear ho0)) | ((with_reducible refine gate_dst (N := 24) rfl ?_); (try (refine gate_guard (by rfl) ?_; dsimp only)); refine box_event rfl (N := 24) rfl (cs := #[.int .i64 0, .int .u64 0, .string (⟨#[]⟩ : ByteArray), .slice none 0 0]) (t := 25) zh ?_; intro gb982 hg w75 hbox hb; replace HO950 := Aside0.mk (Kd.R_below (Kd.R_elderB (zr HO950.out) gb982 (Nat.le_of_eq hg.symm)) hb); replace HO960 := Aside0.mk (Kd.R_below (Kd.R_elderB (zr HO960.out) gb982 (Nat.le_of_eq hg.symm)) hb); replace HO970 := Aside0.mk (Kd.R_below (Kd.R_elderB (zr HO970.out) gb982 (Nat.le_of_eq hg.symm)) hb); replace HO979 := Aside0.mk (Kd.R_below (Kd.R_elderB (zr HO979.out) gb982 (Nat.le_of_eq hg.symm)) hb); have BK982 := Aside0.mk (hbox); have GW982 := Aside0.mk ((zge (w := w) hg)); have GE982 := Aside0.mk ((zge (w := w) hg)); have NB928_982 := Aside0.mk ((znl BK928.out hg)); have NB982_928 := Aside0.mk ((zng BK928.out hg)); replace BK928 := Aside0.mk (zbb BK928.out hb); have NB937_982 := Aside0.mk ((znl BK937.out hg)); have NB982_937 := Aside0.mk ((zng BK937.out hg)); replace BK937 := Aside0.mk (zbb BK937.out hb); have NB944_982 := Aside0.mk ((znl BK944.out hg)); have NB982_944 := Aside0.mk ((zng BK944.out hg)); replace BK944 := Aside0.mk (zbb BK944.out hb); have NB973_982 := Aside0.mk ((znl BK973.out hg)); have NB982_973 := Aside0.mk ((zng BK973.out hg)); replace BK973 := Aside0.mk (zbb BK973.out hb); replace HB := Aside0.mk (below_step zb hb); clear hb hbox hg; have hnb76 := NB982_928.out; have hnc76 := NB928_982.out; have hnb77 := NB982_937.out; have hnc77 := NB937_982.out; have hnb78 := NB982_944.out; have hnc78 := NB944_982.out; have hnb79 := NB982_973.out; have hnc79 := NB973_982.out; obtain ⟨hcz80_0, hcz80_1, hcz80_2, hcz80_3, hfz80_0, hfz80_1, hfz80_2, hfz80_3⟩ := cz4 BK982.out; obtain ⟨Ao81, co81, eo81⟩ := Kd.R_slice HO979.out; subst eo81))
                 have n0_ : Aside0 (Kd.R kV 25 ((((w75.setCell ⟨gb982, 0, none⟩ (.int .i64 t974)).setCell ⟨gb982, 1, none⟩ (.int .u64 t975)).setCell ⟨gb982, 2, none⟩ (.string t976)).setCell ⟨gb982, 3, none⟩ (.slice Ao81 t977.length co81)) w.heap.size (fun k_ => some k_ ≠ (.slice Ao63 t958.length co63 : Value).ownBlock ∧ some k_ ≠ (.slice Ao73 t968.length co73 : Value).ownBlock ∧ some k_ ≠ (.slice Ao81 t977.length co81 : Value).ownBlock ∧ k_ ≠ gb928 ∧ k_ ≠ gb973 ∧ k_ ≠ gb982) (.slice Ao57 t948.length co57) t948) := ⟨by (with_reducible repeat (first | apply Kd.R_alloc | apply Kd.R_drewN | apply Kd.R_drew)); exact Kd.R_mono (Kd.R_far (p := ⟨gb982, 3, none⟩) (Kd.R_far (p := ⟨gb982, 2, none⟩) (Kd.R_far (p := ⟨gb982, 1, none⟩) (Kd.R_far (p := ⟨gb982, 0, none⟩) (Kd.R_mono HO950.out (fun k_ hk => (⟨hk, hk.2⟩ : _ ∧ k_ ≠ gb982))) (fun _ hk => hk.2) (.int .i64 t974)) (fun _ hk => hk.2) (.int .u64 t975)) (fun _ hk => hk.2) (.string t976)) (fun _ hk => hk.2) (.slice Ao81 t977.length co81)) (fun _ hk => ⟨hk.1.1.1.1.1.2, ⟨hk.1.1.1.1.2, ⟨hk.1.1.2, ⟨hk.1.1.1.1.1.1.2, ⟨hk.1.1.1.2, hk.1.2⟩⟩⟩⟩⟩)⟩
                 have n1_ : Aside0 (Kd.R kV 25 ((((w75.setCell ⟨gb982, 0, none⟩ (.int .i64 t974)).setCell ⟨gb982, 1, none⟩ (.int .u64 t975)).setCell ⟨gb982, 2, none⟩ (.string t976)).setCell ⟨gb982, 3, none⟩ (.slice Ao81 t977.length co81)) w.heap.size (fun k_ => some k_ ≠ (.slice Ao57 t948.length co57 : Value).ownBlock ∧ some k_ ≠ (.slice Ao73 t968.length co73 : Value).ownBlock ∧ some k_ ≠ (.slice Ao81 t977.length co81 : Value).ownBlock ∧ k_ ≠ gb928 ∧ k_ ≠ gb973 ∧ k_ ≠ gb982) (.slice Ao63 t958.length co63) t958) := ⟨by (with_reducible repeat (first | apply Kd.R_alloc | apply Kd.R_drewN | apply Kd.R_drew)); exact Kd.R_mono (Kd.R_far (p := ⟨gb982, 3, none⟩) (Kd.R_far (p := ⟨gb982, 2, none⟩) (Kd.R_far (p := ⟨gb982, 1, none⟩) (Kd.R_far (p := ⟨gb982, 0, none⟩) (Kd.R_mono HO960.out (fun k_ hk => (⟨hk, hk.2⟩ : _ ∧ k_ ≠ gb982))) (fun _ hk => hk.2) (.int .i64 t974)) (fun _ hk => hk.2) (.int .u64 t975)) (fun _ hk => hk.2) (.string t976)) (fun _ hk => hk.2) (.slice Ao81 t977.length co81)) (fun _ hk => ⟨hk.1.1.1.1.1.1.2, ⟨hk.1.1.1.1.2, ⟨hk.1.1.2, ⟨hk.1.1.1.1.1.2, ⟨hk.1.1.1.2, hk.1.2⟩⟩⟩⟩⟩)⟩
                 have n2_ : Aside0 (Kd.R kV 25 ((((w75.setCell ⟨gb982, 0, none⟩ (.int .i64 t974)).setCell ⟨gb982, 1, none⟩ (.int .u64 t975)).setCell ⟨gb982, 2, none⟩ (.string t976)).setCell ⟨gb982, 3, none⟩ (.slice Ao81 t977.length co81)) w.heap.size (fun k_ => some k_ ≠ (.slice Ao57 t948.length co57 : Value).ownBlock ∧ some k_ ≠ (.slice Ao63 t958.length co63 : Value).ownBlock ∧ some k_ ≠ (.slice Ao81 t977.length co81 : Value).ownBlock ∧ k_ ≠ gb928 ∧ k_ ≠ gb973 ∧ k_ ≠ gb982) (.slice Ao73 t968.length co73) t968) := ⟨by (with_reducible repeat (first | apply Kd.R_alloc | apply Kd.R_drewN | apply Kd.R_drew)); exact Kd.R_mono (Kd.R_far (p := ⟨gb982, 3, none⟩) (Kd.R_far (p := ⟨gb982, 2, none⟩) (Kd.R_far (p := ⟨gb982, 1, none⟩) (Kd.R_far (p := ⟨gb982, 0, none⟩) (Kd.R_mono HO970.out (fun k_ hk => (⟨hk, hk.2⟩ : _ ∧ k_ ≠ gb982))) (fun _ hk => hk.2) (.int .i64 t974)) (fun _ hk => hk.2) (.int .u64 t975)) (fun _ hk => hk.2) (.string t976)) (fun _ hk => hk.2) (.slice Ao81 t977.length co81)) (fun _ hk => ⟨hk.1.1.1.1.1.1.2, ⟨hk.1.1.1.1.1.2, ⟨hk.1.1.2, ⟨hk.1.1.1.1.2, ⟨hk.1.1.1.2, hk.1.2⟩⟩⟩⟩⟩)⟩
                 have n3_ : Aside0 (Kd.R kV 25 ((((w75.setCell ⟨gb982, 0, none⟩ (.int .i64 t974)).setCell ⟨gb982, 1, none⟩ (.int .u64 t975)).setCell ⟨gb982, 2, none⟩ (.string t976)).setCell ⟨gb982, 3, none⟩ (.slice Ao81 t977.length co81)) w.heap.size (fun k_ => some k_ ≠ (.slice Ao57 t948.length co57 : Value).ownBlock ∧ some k_ ≠ (.slice Ao63 t958.length co63 : Value).ownBlock ∧ some k_ ≠ (.slice Ao73 t968.length co73 : Value).ownBlock ∧ k_ ≠ gb928 ∧ k_ ≠ gb973 ∧ k_ ≠ gb982) (.slice Ao81 t977.length co81) t977) := ⟨by (with_reducible repeat (first | apply Kd.R_alloc | apply Kd.R_drewN | apply Kd.R_drew)); exact Kd.R_mono (Kd.R_far (p := ⟨gb982, 3, none⟩) (Kd.R_far (p := ⟨gb982, 2, none⟩) (Kd.R_far (p := ⟨gb982, 1, none⟩) (Kd.R_far (p := ⟨gb982, 0, none⟩) (Kd.R_mono HO979.out (fun k_ hk => (⟨hk, hk.2⟩ : _ ∧ k_ ≠ gb982))) (fun _ hk => hk.2) (.int .i64 t974)) (fun _ hk => hk.2) (.int .u64 t975)) (fun _ hk => hk.2) (.string t976)) (fun _ hk => hk.2) (.slice Ao81 t977.length co81)) (fun _ hk => ⟨hk.1.1.1.1.1.1.2, ⟨hk.1.1.1.1.1.2, ⟨hk.1.1.1.1.2, ⟨hk.1.1.1.2, ⟨hk.1.1.2, hk.1.2⟩⟩⟩⟩⟩)⟩
                 have n4_ : Aside0 (((((w75.setCell ⟨gb982, 0, none⟩ (.int .i64 t974)).setCell ⟨gb982, 1, none⟩ (.int .u64 t975)).setCell ⟨gb982, 2, none⟩ (.string t976)).setCell ⟨gb982, 3, none⟩ (.slice Ao81 t977.length co81)).heap[gb928]? = some (.cells #[.int .i64 a1_0, .int .u64 a1_1, .string a1_2, .slice A1_3 l1_3.length c1_3] 25 (0, 0))) := ⟨zk BK928.out⟩
                 have n5_ : Aside0 (((((w75.setCell ⟨gb982, 0, none⟩ (.int .i64 t974)).setCell ⟨gb982, 1, none⟩ (.int .u64 t975)).setCell ⟨gb982, 2, none⟩ (.string t976)).setCell ⟨gb982, 3, none⟩ (.slice Ao81 t977.length co81)).heap[gb937]? = some (.cells #[.int .i64 t931, .int .i64 t932, .int .i64 t933, .bool t934, .bool t935] 34 (0, 0))) := ⟨zk BK937.out⟩
                 have n6_ : Aside0 (((((w75.setCell ⟨gb982, 0, none⟩ (.int .i64 t974)).setCell ⟨gb982, 1, none⟩ (.int .u64 t975)).setCell ⟨gb982, 2, none⟩ (.string t976)).setCell ⟨gb982, 3, none⟩ (.slice Ao81 t977.length co81)).heap[gb944]? = some (.cells #[.int .i64 t938, .int .i64 t939, .int .i64 t940, .bool t941, .bool t942] 34 (0, 0))) := ⟨zk BK944.out⟩
                 have n7_ : Aside0 (((((w75.setCell ⟨gb982, 0, none⟩ (.int .i64 t974)).setCell ⟨gb982, 1, none⟩ (.int .u64 t975)).setCell ⟨gb982, 2, none⟩ (.string t976)).setCell ⟨gb982, 3, none⟩ (.slice Ao81 t977.length co81)).heap[gb973]? = some (.cells #[.int .i64 t965, .int .u64 t966, .string t967, .slice Ao73 t968.length co73] 25 (0, 0))) := ⟨zk BK973.out⟩
                 have n8_ : Aside0 (((((w75.setCell ⟨gb982, 0, none⟩ (.int .i64 t974)).setCell ⟨gb982, 1, none⟩ (.int .u64 t975)).setCell ⟨gb982, 2, none⟩ (.string t976)).setCell ⟨gb982, 3, none⟩ (.slice Ao81 t977.length co81)).heap[gb982]? = some (.cells #[.int .i64 t974, .int .u64 t975, .string t976, .slice Ao81 t977.length co81] 25 (0, 0))) := ⟨zp4 BK982.out _ _ _ _⟩
                 have n9_ : Aside0 (Below w.heap.size w ((((w75.setCell ⟨gb982, 0, none⟩ (.int .i64 t974)).setCell ⟨gb982, 1, none⟩ (.int .u64 t975)).setCell ⟨gb982, 2, none⟩ (.string t976)).setCell ⟨gb982, 3, none⟩ (.slice Ao81 t977.length co81))) := ⟨zb⟩
                 (try clear HO950)
                 (try clear HO960)
                 (try clear HO970)
                 (try clear HO979)
                 (try clear BK928)
                 (try clear BK937)
                 (try clear BK944)
                 (try clear BK973)
                 (try clear BK982)
                 (try clear HB)
                 generalize ((((w75.setCell ⟨gb982, 0, none⟩ (.int .i64 t974)).setCell ⟨gb982, 1, none⟩ (.int .u64 t975)).setCell ⟨gb982, 2, none⟩ (.string t976)).setCell ⟨gb982, 3, none⟩ (.slice Ao81 t977.length co81)) = w82 at n0_ n1_ n2_ n3_ n4_ n5_ n6_ n7_ n8_ n9_ ⊢
                 have HO950 := n0_
                 have HO960 := n1_
                 have HO970 := n2_
                 have HO979 := n3_
                 have BK928 := n4_
                 have BK937 := n5_
                 have BK944 := n6_
                 have BK973 := n7_
                 have BK982 := n8_
                 have HB := n9_
                 clear n0_ n1_ n2_ n3_ n4_ n5_ n6_ n7_ n8_ n9_
                 have n0_ := Aside0.mk (Kd.R_drew HO950.out)
                 have n1_ := Aside0.mk (Kd.R_drew HO960.out)
                 have n2_ := Aside0.mk (Kd.R_drew HO970.out)
                 have n3_ := Aside0.mk (Kd.R_drew HO979.out)
                 have n4_ := Aside0.mk (blk_drew BK928.out)
                 have n5_ := Aside0.mk (blk_drew BK937.out)
                 have n6_ := Aside0.mk (blk_drew BK944.out)
                 have n7_ := Aside0.mk (blk_drew BK973.out)
                 have n8_ := Aside0.mk (blk_drew BK982.out)
                 have n9_ := Aside0.mk (below_drew1 HB.out)
                 clear HO950
                 clear HO960
                 clear HO970
                 clear HO979
                 clear BK928
                 clear BK937
                 clear BK944
                 clear BK973
                 clear BK982
                 clear HB
                 have HO950 := n0_
                 have HO960 := n1_
                 have HO970 := n2_
                 have HO979 := n3_
                 have BK928 := n4_
                 have BK937 := n5_
                 have BK944 := n6_
                 have BK973 := n7_
                 have BK982 := n8_
                 have HB := n9_
                 clear n0_ n1_ n2_ n3_ n4_ n5_ n6_ n7_ n8_ n9_
                 refine start_ (n := 67) (S := fun w' => w'.cell? ⟨gb937, 0, none⟩ = some (.int .i64 t931) ∧ w'.cell? ⟨gb937, 1, none⟩ = some (.int .i64 t932) ∧ w'.cell? ⟨gb937, 2, none⟩ = some (.int .i64 t933) ∧ w'.cell? ⟨gb937, 3, none⟩ = some (.bool t934) ∧ w'.cell? ⟨gb937, 4, none⟩ = some (.bool t935) ∧ w'.cell? ⟨gb944, 0, none⟩ = some (.int .i64 t938) ∧ w'.cell? ⟨gb944, 1, none⟩ = some (.int .i64 t939) ∧ w'.cell? ⟨gb944, 2, none⟩ = some (.int .i64 t940) ∧ w'.cell? ⟨gb944, 3, none⟩ = some (.bool t941) ∧ w'.cell? ⟨gb944, 4, none⟩ = some (.bool t942) ∧ w'.cell? ⟨gb973, 0, none⟩ = some (.int .i64 t965) ∧ w'.cell? ⟨gb973, 1, none⟩ = some (.int .u64 t966) ∧ w'.cell? ⟨gb973, 2, none⟩ = some (.string t967) ∧ w'.cell? ⟨gb973, 3, none⟩ = some (.slice Ao73 t968.length co73) ∧ w'.cell? ⟨gb982, 0, none⟩ = some (.int .i64 t974) ∧ w'.cell? ⟨gb982, 1, none⟩ = some (.int .u64 t975) ∧ w'.cell? ⟨gb982, 2, none⟩ = some (.string t976) ∧ w'.cell? ⟨gb982, 3, none⟩ = some (.slice Ao81 t977.length co81) ∧ w'.cell? ⟨gb928, 0, none⟩ = some (.int .i64 a1_0) ∧ w'.cell? ⟨gb928, 1, none⟩ = some (.int .u64 a1_1) ∧ w'.cell? ⟨gb928, 2, none⟩ = some (.string a1_2) ∧ w'.cell? ⟨gb928, 3, none⟩ = some (.slice A1_3 l1_3.length c1_3)) (ds := []) (bm 67 0) (by kernel_rfl) rfl rfl ⟨(blk_cell BK937.out 0).trans rfl, (blk_cell BK937.out 1).trans rfl, (blk_cell BK937.out 2).trans rfl, (blk_cell BK937.out 3).trans rfl, (blk_cell BK937.out 4).trans rfl, (blk_cell BK944.out 0).trans rfl, (blk_cell BK944.out 1).trans rfl, (blk_cell BK944.out 2).trans rfl, (blk_cell BK944.out 3).trans rfl, (blk_cell BK944.out 4).trans rfl, (blk_cell BK973.out 0).trans rfl, (blk_cell BK973.out 1).trans rfl, (blk_cell BK973.out 2).trans rfl, (blk_cell BK973.out 3).trans rfl, (blk_cell BK982.out 0).trans rfl, (blk_cell BK982.out 1).trans rfl, (blk_cell BK982.out 2).trans rfl, (blk_cell BK982.out 3).trans rfl, (blk_cell BK928.out 0).trans rfl, (blk_cell BK928.out 1).trans rfl, (blk_cell BK928.out 2).trans rfl, (blk_cell BK928.out 3).trans rfl⟩ (fun hHeld => ?_); refine with_tabW polyglotlaw16_AmqprimCalls.tab13 polyglotlaw16_AmqprimCalls.bits13 (fun HT_ HW_ => ?_)
                 generalize w82.drew = w83 at HO950 HO960 HO970 HO979 BK928 BK937 BK944 BK973 BK982 HB hHeld ⊢
                 refine tk 0 (some 85) (bm 67 1) hHeld (h := ?_)
                 refine tk 1 (some 86) (bm 67 3) hHeld (h := ?_)
                 refine pu 2 (some 87) (bm 67 7) (h := ?_)
                 refine pu 3 (some 88) (bm 67 15) (h := ?_)
                 refine pu 4 (some 89) (bm 67 31) (h := ?_)
                 refine pu 5 (some 90) (bm 67 63) (h := ?_)
                 refine pu 6 (some 91) (bm 67 127) (h := ?_)
                 refine pu 7 (some 92) (bm 67 255) (h := ?_)
                 refine pu 8 (some 93) (bm 67 511) (h := ?_)
                 refine pu 9 (some 94) (bm 67 1023) (h := ?_)
                 refine pu 10 (some 95) (bm 67 2047) (h := ?_)
                 refine pu 11 (some 96) (bm 67 4095) (h := ?_)
                 refine pu 12 (some 97) (bm 67 8191) (h := ?_)
                 refine pu 13 (some 98) (bm 67 16383) (h := ?_)
                 refine pu 14 (some 99) (bm 67 32767) (h := ?_)
                 refine pu 15 (some 100) (bm 67 65535) (h := ?_)
                 refine pu 16 (some 101) (bm 67 131071) (h := ?_)
                 refine pu 17 (some 102) (bm 67 262143) (h := ?_)
                 refine pu 18 (some 103) (bm 67 524287) (h := ?_)
                 refine pu 19 (some 104) (bm 67 1048575) (h := ?_)
                 refine pu 20 (some 105) (bm 67 2097151) (h := ?_)
                 refine pu 21 (some 106) (bm 67 4194303) (h := ?_)
                 refine pu 22 (some 107) (bm 67 8388607) (h := ?_)
                 refine pu 23 (some 108) (bm 67 16777215) (h := ?_)
                 refine pu 24 (some 109) (bm 67 33554431) (h := ?_)
                 refine pu 25 (some 110) (bm 67 67108863) (h := ?_)
                 refine pu 26 (some 111) (bm 67 134217727) (h := ?_)
                 refine pu 27 (some 112) (bm 67 268435455) (h := ?_)
                 refine pu 28 (some 113) (bm 67 536870911) (h := ?_)
                 refine tk 29 (some 114) (bm 67 1073741823) hHeld (h := ?_)
                 refine tk 30 (some 115) (bm 67 2147483647) hHeld (h := ?_)
                 refine one_ (i := 31) (N := some 116) (bm 67 4294967295) rfl rfl (one_of HT_.out (by kernel_rfl)) (by decide) (fun K hK => ?_)
                 refine goes_ Tryd.func26 (by kernel_rfl) rfl #[.agg #[.int .i64 t965, .int .u64 t966, .string t967, .slice Ao73 t968.length co73], .agg #[.int .i64 t974, .int .u64 t975, .string t976, .slice Ao81 t977.length co81]] (by rfl) rfl rfl za ?_
                 with_reducible refine (polyglotkit_SameValue.calls kj6 t965 t966 t967 _ _ t968 t974 t975 t976 _ _ t977 true _ ?side1 ?side2 ?side3 ?side4 A33.out).mono ?_
                 (case side1 => repeat (first | exact (Kd.R_reads' HO970.out).2.2 | (with_reducible refine Kd.C_alloc ?_ _) | (with_reducible refine Kd.C_drewN ?_ _) | (with_reducible refine Kd.C_drew ?_)))
                 (case side2 => exact (Kd.R_reads' HO970.out).2.1)
                 (case side3 => repeat (first | exact (Kd.R_reads' HO979.out).2.2 | (with_reducible refine Kd.C_alloc ?_ _) | (with_reducible refine Kd.C_drewN ?_ _) | (with_reducible refine Kd.C_drew ?_)))
                 (case side4 => exact (Kd.R_reads' HO979.out).2.1)
                 rintro e w84 ⟨rfl, hb⟩
                 refine ⟨_, rfl, ?_⟩
                 have n0_ := Aside0.mk (Kd.R_below (zr HO950.out) hb)
                 have n1_ := Aside0.mk (Kd.R_below (zr HO960.out) hb)
                 have n2_ := Aside0.mk (Kd.R_below (zr HO970.out) hb)
                 have n3_ := Aside0.mk (Kd.R_below (zr HO979.out) hb)
                 have n4_ := Aside0.mk (zbb BK928.out hb)
                 have n5_ := Aside0.mk (zbb BK937.out hb)
                 have n6_ := Aside0.mk (zbb BK944.out hb)
                 have n7_ := Aside0.mk (zbb BK973.out hb)
                 have n8_ := Aside0.mk (zbb BK982.out hb)
                 have n9_ := Aside0.mk (below_step zb hb)
                 clear HO950
                 clear HO960
                 clear HO970
                 clear HO979
                 clear BK928
                 clear BK937
                 clear BK944
                 clear BK973
                 clear BK982
                 clear HB
                 have HO950 := n0_
                 have HO960 := n1_
                 have HO970 := n2_
                 have HO979 := n3_
                 have BK928 := n4_
                 have BK937 := n5_
                 have BK944 := n6_
                 have BK973 := n7_
                 have BK982 := n8_
                 have HB := n9_
                 clear n0_ n1_ n2_ n3_ n4_ n5_ n6_ n7_ n8_ n9_
                 (try clear hb)
                 (try clear hb2)
                 (try clear hk)
                 (try clear hi)
                 refine hK.out _ _ ⟨(blk_cell BK937.out 0).trans rfl, (blk_cell BK937.out 1).trans rfl, (blk_cell BK937.out 2).trans rfl, (blk_cell BK937.out 3).trans rfl, (blk_cell BK937.out 4).trans rfl, (blk_cell BK944.out 0).trans rfl, (blk_cell BK944.out 1).trans rfl, (blk_cell BK944.out 2).trans rfl, (blk_cell BK944.out 3).trans rfl, (blk_cell BK944.out 4).trans rfl, (blk_cell BK973.out 0).trans rfl, (blk_cell BK973.out 1).trans rfl, (blk_cell BK973.out 2).trans rfl, (blk_cell BK973.out 3).trans rfl, (blk_cell BK982.out 0).trans rfl, (blk_cell BK982.out 1).trans rfl, (blk_cell BK982.out 2).trans rfl, (blk_cell BK982.out 3).trans rfl, (blk_cell BK928.out 0).trans rfl, (blk_cell BK928.out 1).trans rfl, (blk_cell BK928.out 2).trans rfl, (blk_cell BK928.out 3).trans rfl⟩ (fun hHeld => ?_)
                 clear hK K
                 refine norm_ (a' := ?_) ?_ ?_
                 rotate_left
                 ·show Act.put _ (some 116) _ = _
                  simp only [Act.put, List.setIfInBounds_toArray, List.set_cons_zero, List.set_cons_succ, i64_w, i32_w]
                  rfl
                 refine pu 32 (some 117) (bm 67 8589934591) (h := ?_)
                 refine pu 33 (some 118) (bm 67 17179869183) (h := ?_)
                 refine pu 34 (some 119) (bm 67 34359738367) (h := ?_)
                 refine pu 35 (some 120) (bm 67 68719476735) (h := ?_)
                 refine pu 36 (some 121) (bm 67 137438953471) (h := ?_)
                 refine pu 37 (some 122) (bm 67 274877906943) (h := ?_)
                 refine pu 38 (some 123) (bm 67 549755813887) (h := ?_)
                 refine pu 39 (some 124) (bm 67 1099511627775) (h := ?_)
                 refine pu 40 (some 125) (bm 67 2199023255551) (h := ?_)
                 refine pu 41 (some 126) (bm 67 4398046511103) (h := ?_)
                 refine pu 42 (some 127) (bm 67 8796093022207) (h := ?_)
                 refine pu 43 (some 128) (bm 67 17592186044415) (h := ?_)
                 refine pu 44 (some 129) (bm 67 35184372088831) (h := ?_)
                 refine pu 46 (some 131) (bm 67 105553116266495) (h := ?_)
                 refine one_ (i := 45) (N := some 130) (bm 67 140737488355327) rfl rfl (one_of HT_.out (by kernel_rfl)) (by decide) (fun K hK => ?_)
                 refine goes_ Tryd.func20 (by kernel_rfl) rfl #[.int .i64 a2] (by rfl) rfl rfl za ?_
                 with_reducible refine (amqprim_Codes.calls a2 t984 _ A37.out).mono ?_
                 rintro e w85 ⟨v985, rfl, ho0, hb⟩
                 refine ⟨_, rfl, ?_⟩
                 have n0_ := Aside0.mk (Kd.R_below (zr HO950.out) hb)
                 have n1_ := Aside0.mk (Kd.R_below (zr HO960.out) hb)
                 have n2_ := Aside0.mk (Kd.R_below (zr HO970.out) hb)
                 have n3_ := Aside0.mk (Kd.R_below (zr HO979.out) hb)
                 have n4_ := Aside0.mk (Kd.R_lower ho0 (below_size zb))
                 have n5_ := Aside0.mk (zbb BK928.out hb)
                 have n6_ := Aside0.mk (zbb BK937.out hb)
                 have n7_ := Aside0.mk (zbb BK944.out hb)
                 have n8_ := Aside0.mk (zbb BK973.out hb)
                 have n9_ := Aside0.mk (zbb BK982.out hb)
                 have n10_ := Aside0.mk (below_step zb hb)
                 clear HO950
                 clear HO960
                 clear HO970
                 clear HO979
                 clear BK928
                 clear BK937
                 clear BK944
                 clear BK973
                 clear BK982
                 clear HB
                 have HO950 := n0_
                 have HO960 := n1_
                 have HO970 := n2_
                 have HO979 := n3_
                 have HO986 := n4_
                 have BK928 := n5_
                 have BK937 := n6_
                 have BK944 := n7_
                 have BK973 := n8_
                 have BK982 := n9_
                 have HB := n10_
                 clear n0_ n1_ n2_ n3_ n4_ n5_ n6_ n7_ n8_ n9_ n10_
                 (try clear hb)
                 (try clear hb2)
                 (try clear hk)
                 (try clear hi)
                 (try clear ho0)
                 refine hK.out _ _ ⟨(blk_cell BK937.out 0).trans rfl, (blk_cell BK937.out 1).trans rfl, (blk_cell BK937.out 2).trans rfl, (blk_cell BK937.out 3).trans rfl, (blk_cell BK937.out 4).trans rfl, (blk_cell BK944.out 0).trans rfl, (blk_cell BK944.out 1).trans rfl, (blk_cell BK944.out 2).trans rfl, (blk_cell BK944.out 3).trans rfl, (blk_cell BK944.out 4).trans rfl, (blk_cell BK973.out 0).trans rfl, (blk_cell BK973.out 1).trans rfl, (blk_cell BK973.out 2).trans rfl, (blk_cell BK973.out 3).trans rfl, (blk_cell BK982.out 0).trans rfl, (blk_cell BK982.out 1).trans rfl, (blk_cell BK982.out 2).trans rfl, (blk_cell BK982.out 3).trans rfl, (blk_cell BK928.out 0).trans rfl, (blk_cell BK928.out 1).trans rfl, (blk_cell BK928.out 2).trans rfl, (blk_cell BK928.out 3).trans rfl⟩ (fun hHeld => ?_)
                 clear hK K
                 refine norm_ (a' := ?_) ?_ ?_
                 rotate_left
                 ·show Act.put _ (some 130) _ = _
                  simp only [Act.put, List.setIfInBounds_toArray, List.set_cons_zero, List.set_cons_succ, i64_w, i32_w]
                  rfl
                 refine one_ (i := 47) (N := some 132) (bm 67 281474976710655) rfl rfl (one_of HT_.out (by kernel_rfl)) (by decide) (fun K hK => ?_)
                 refine goes_ Tryd.func46 (by kernel_rfl) rfl #[.int .i64 a2] (by rfl) rfl rfl za ?_
                 with_reducible refine (polyglotref16_Codes.calls kj6 a2 t987 _ A38.out).mono ?_
                 rintro e w86 ⟨v988, rfl, ho0, hb⟩
                 refine ⟨_, rfl, ?_⟩
                 have n0_ := Aside0.mk (Kd.R_below (zr HO950.out) hb)
                 have n1_ := Aside0.mk (Kd.R_below (zr HO960.out) hb)
                 have n2_ := Aside0.mk (Kd.R_below (zr HO970.out) hb)
                 have n3_ := Aside0.mk (Kd.R_below (zr HO979.out) hb)
                 have n4_ := Aside0.mk (Kd.R_elder' (zr HO986.out) (Kd.R_base ho0) hb)
                 have n5_ := Aside0.mk (Kd.R_lower (Kd.R_new' ho0 (Kd.R_lt (zr HO986.out))) (below_size zb))
                 have n6_ := Aside0.mk (zbb BK928.out hb)
                 have n7_ := Aside0.mk (zbb BK937.out hb)
                 have n8_ := Aside0.mk (zbb BK944.out hb)
                 have n9_ := Aside0.mk (zbb BK973.out hb)
                 have n10_ := Aside0.mk (zbb BK982.out hb)
                 have n11_ := Aside0.mk (below_step zb hb)
                 clear HO950
                 clear HO960
                 clear HO970
                 clear HO979
                 clear HO986
                 clear BK928
                 clear BK937
                 clear BK944
                 clear BK973
                 clear BK982
                 clear HB
                 have HO950 := n0_
                 have HO960 := n1_
                 have HO970 := n2_
                 have HO979 := n3_
                 have HO986 := n4_
                 have HO989 := n5_
                 have BK928 := n6_
                 have BK937 := n7_
                 have BK944 := n8_
                 have BK973 := n9_
                 have BK982 := n10_
                 have HB := n11_
                 clear n0_ n1_ n2_ n3_ n4_ n5_ n6_ n7_ n8_ n9_ n10_ n11_
                 (try clear hb)
                 (try clear hb2)
                 (try clear hk)
                 (try clear hi)
                 (try clear ho0)
                 obtain ⟨Ao87, co87, eo87⟩ := Kd.R_slice HO986.out
                 (first | subst eo87 | (injection eo87 with f1_ f2_ f3_; have f4_ := f1_.symm; have f5_ := f3_.symm; clear f1_ f2_ f3_; subst f4_; subst f5_))
                 obtain ⟨Ao88, co88, eo88⟩ := Kd.R_slice HO989.out
                 (first | subst eo88 | (injection eo88 with f1_ f2_ f3_; have f4_ := f1_.symm; have f5_ := f3_.symm; clear f1_ f2_ f3_; subst f4_; subst f5_))
                 refine hK.out _ _ ⟨(blk_cell BK937.out 0).trans rfl, (blk_cell BK937.out 1).trans rfl, (blk_cell BK937.out 2).trans rfl, (blk_cell BK937.out 3).trans rfl, (blk_cell BK937.out 4).trans rfl, (blk_cell BK944.out 0).trans rfl, (blk_cell BK944.out 1).trans rfl, (blk_cell BK944.out 2).trans rfl, (blk_cell BK944.out 3).trans rfl, (blk_cell BK944.out 4).trans rfl, (blk_cell BK973.out 0).trans rfl, (blk_cell BK973.out 1).trans rfl, (blk_cell BK973.out 2).trans rfl, (blk_cell BK973.out 3).trans rfl, (blk_cell BK982.out 0).trans rfl, (blk_cell BK982.out 1).trans rfl, (blk_cell BK982.out 2).trans rfl, (blk_cell BK982.out 3).trans rfl, (blk_cell BK928.out 0).trans rfl, (blk_cell BK928.out 1).trans rfl, (blk_cell BK928.out 2).trans rfl, (blk_cell BK928.out 3).trans rfl⟩ (fun hHeld => ?_)
                 clear hK K
                 refine norm_ (a' := ?_) ?_ ?_
                 rotate_left
                 ·show Act.put _ (some 132) _ = _
                  simp only [Act.put, List.setIfInBounds_toArray, List.set_cons_zero, List.set_cons_succ, i64_w, i32_w]
                  rfl
                 refine one_ (i := 48) (N := some 133) (bm 67 562949953421311) rfl rfl (one_of HT_.out (by kernel_rfl)) (by decide) (fun K hK => ?_)
                 refine goes_ Tryd.func38 (by kernel_rfl) rfl #[.slice Ao87 t984.length co87, .slice Ao88 t987.length co88] (by rfl) rfl rfl za ?_
                 with_reducible refine (polyglotkit_Same_int.calls kj6 _ _ t984 _ _ t987 true _ ?side1 ?side2 ?side3 ?side4 A39.out).mono ?_
                 (case side1 => repeat (first | exact (Kd.R_reads' HO986.out).2.2 | (with_reducible refine Kd.C_alloc ?_ _) | (with_reducible refine Kd.C_drewN ?_ _) | (with_reducible refine Kd.C_drew ?_)))
                 (case side2 => exact (Kd.R_reads' HO986.out).2.1)
                 (case side3 => repeat (first | exact (Kd.R_reads' HO989.out).2.2 | (with_reducible refine Kd.C_alloc ?_ _) | (with_reducible refine Kd.C_drewN ?_ _) | (with_reducible refine Kd.C_drew ?_)))
                 (case side4 => exact (Kd.R_reads' HO989.out).2.1)
                 rintro e w' ⟨rfl, ⟨nd, rfl⟩⟩
                 refine ⟨_, rfl, ?_⟩
                 refine hK.out _ _ ⟨(blk_cell BK937.out 0).trans rfl, (blk_cell BK937.out 1).trans rfl, (blk_cell BK937.out 2).trans rfl, (blk_cell BK937.out 3).trans rfl, (blk_cell BK937.out 4).trans rfl, (blk_cell BK944.out 0).trans rfl, (blk_cell BK944.out 1).trans rfl, (blk_cell BK944.out 2).trans rfl, (blk_cell BK944.out 3).trans rfl, (blk_cell BK944.out 4).trans rfl, (blk_cell BK973.out 0).trans rfl, (blk_cell BK973.out 1).trans rfl, (blk_cell BK973.out 2).trans rfl, (blk_cell BK973.out 3).trans rfl, (blk_cell BK982.out 0).trans rfl, (blk_cell BK982.out 1).trans rfl, (blk_cell BK982.out 2).trans rfl, (blk_cell BK982.out 3).trans rfl, (blk_cell BK928.out 0).trans rfl, (blk_cell BK928.out 1).trans rfl, (blk_cell BK928.out 2).trans rfl, (blk_cell BK928.out 3).trans rfl⟩ (fun hHeld => ?_)
                 clear hK K
                 refine norm_ (a' := ?_) ?_ ?_
                 rotate_left
                 ·show Act.put _ (some 133) _ = _
                  simp only [Act.put, List.setIfInBounds_toArray, List.set_cons_zero, List.set_cons_succ, i64_w, i32_w]
                  rfl
                 refine pu 49 (some 134) (bm 67 1125899906842623) (h := ?_)
                 refine pu 50 (some 135) (bm 67 2251799813685247) (h := ?_)
                 refine tk 51 (some 136) (bm 67 4503599627370495) hHeld (h := ?_)
                 refine tk 53 (some 138) (bm 67 13510798882111487) hHeld (h := ?_)
                 refine one_ (i := 52) (N := some 137) (bm 67 18014398509481983) rfl rfl (one_of HT_.out (by kernel_rfl)) (by decide) (fun K hK => ?_)
                 refine goes_ Tryd.func21 (by kernel_rfl) rfl #[.agg #[.int .i64 a1_0, .int .u64 a1_1, .string a1_2, .slice A1_3 l1_3.length c1_3]] (by rfl) rfl rfl za ?_
                 with_reducible refine (amqprim_Check.calls a1_0 a1_1 a1_2 _ _ l1_3 t991 _ ?side1 ?side2 ?side3 A41.out).mono ?_
                 (case side1 => exact HT.out.below zb)
                 (case side2 => repeat (first | exact (Kd.C_below HR1_3.out zb) | (with_reducible refine Kd.C_alloc ?_ _) | (with_reducible refine Kd.C_drewN ?_ _) | (with_reducible refine Kd.C_drew ?_)))
                 (case side3 => exact HC1_3.out)
                 rintro e w89 ⟨rfl, hb⟩
                 refine ⟨_, rfl, ?_⟩
                 have n0_ := Aside0.mk (Kd.R_below (zr HO950.out) hb)
                 have n1_ := Aside0.mk (Kd.R_below (zr HO960.out) hb)
                 have n2_ := Aside0.mk (Kd.R_below (zr HO970.out) hb)
                 have n3_ := Aside0.mk (Kd.R_below (zr HO979.out) hb)
                 have n4_ := Aside0.mk (Kd.R_below (zr HO986.out) hb)
                 have n5_ := Aside0.mk (Kd.R_below (zr HO989.out) hb)
                 have n6_ := Aside0.mk (zbb BK928.out hb)
                 have n7_ := Aside0.mk (zbb BK937.out hb)
                 have n8_ := Aside0.mk (zbb BK944.out hb)
                 have n9_ := Aside0.mk (zbb BK973.out hb)
                 have n10_ := Aside0.mk (zbb BK982.out hb)
                 have n11_ := Aside0.mk (below_step zb hb)
                 clear HO950
                 clear HO960
                 clear HO970
                 clear HO979
                 clear HO986
                 clear HO989
                 clear BK928
                 clear BK937
                 clear BK944
                 clear BK973
                 clear BK982
                 clear HB
                 have HO950 := n0_
                 have HO960 := n1_
                 have HO970 := n2_
                 have HO979 := n3_
                 have HO986 := n4_
                 have HO989 := n5_
                 have BK928 := n6_
                 have BK937 := n7_
                 have BK944 := n8_
                 have BK973 := n9_
                 have BK982 := n10_
                 have HB := n11_
                 clear n0_ n1_ n2_ n3_ n4_ n5_ n6_ n7_ n8_ n9_ n10_ n11_
                 (try clear hb)
                 (try clear hb2)
                 (try clear hk)
                 (try clear hi)
                 refine hK.out _ _ ⟨(blk_cell BK937.out 0).trans rfl, (blk_cell BK937.out 1).trans rfl, (blk_cell BK937.out 2).trans rfl, (blk_cell BK937.out 3).trans rfl, (blk_cell BK937.out 4).trans rfl, (blk_cell BK944.out 0).trans rfl, (blk_cell BK944.out 1).trans rfl, (blk_cell BK944.out 2).trans rfl, (blk_cell BK944.out 3).trans rfl, (blk_cell BK944.out 4).trans rfl, (blk_cell BK973.out 0).trans rfl, (blk_cell BK973.out 1).trans rfl, (blk_cell BK973.out 2).trans rfl, (blk_cell BK973.out 3).trans rfl, (blk_cell BK982.out 0).trans rfl, (blk_cell BK982.out 1).trans rfl, (blk_cell BK982.out 2).trans rfl, (blk_cell BK982.out 3).trans rfl, (blk_cell BK928.out 0).trans rfl, (blk_cell BK928.out 1).trans rfl, (blk_cell BK928.out 2).trans rfl, (blk_cell BK928.out 3).trans rfl⟩ (fun hHeld => ?_)
                 clear hK K
                 refine norm_ (a' := ?_) ?_ ?_
                 rotate_left
                 ·show Act.put _ (some 137) _ = _
                  simp only [Act.put, List.setIfInBounds_toArray, List.set_cons_zero, List.set_cons_succ, i64_w, i32_w]
                  rfl
                 refine one_ (i := 54) (N := some 139) (bm 67 36028797018963967) rfl rfl (one_of HT_.out (by kernel_rfl)) (by decide) (fun K hK => ?_)
                 refine goes_ Tryd.func47 (by kernel_rfl) rfl #[.agg #[.int .i64 a1_0, .int .u64 a1_1, .string a1_2, .slice A1_3 l1_3.length c1_3]] (by rfl) rfl rfl za ?_
                 with_reducible refine (polyglotref16_Check.calls kj6 a1_0 a1_1 a1_2 _ _ l1_3 t992 _ ?side1 ?side2 A42.out).mono ?_
                 (case side1 => repeat (first | exact (Kd.C_below HR1_3.out HB.out) | (with_reducible refine Kd.C_alloc ?_ _) | (with_reducible refine Kd.C_drewN ?_ _) | (with_reducible refine Kd.C_drew ?_)))
                 (case side2 => exact HC1_3.out)
                 rintro e w90 ⟨rfl, hb⟩
                 refine ⟨_, rfl, ?_⟩
                 have n0_ := Aside0.mk (Kd.R_below (zr HO950.out) hb)
                 have n1_ := Aside0.mk (Kd.R_below (zr HO960.out) hb)
                 have n2_ := Aside0.mk (Kd.R_below (zr HO970.out) hb)
                 have n3_ := Aside0.mk (Kd.R_below (zr HO979.out) hb)
                 have n4_ := Aside0.mk (Kd.R_below (zr HO986.out) hb)
                 have n5_ := Aside0.mk (Kd.R_below (zr HO989.out) hb)
                 have n6_ := Aside0.mk (zbb BK928.out hb)
                 have n7_ := Aside0.mk (zbb BK937.out hb)
                 have n8_ := Aside0.mk (zbb BK944.out hb)
                 have n9_ := Aside0.mk (zbb BK973.out hb)
                 have n10_ := Aside0.mk (zbb BK982.out hb)
                 have n11_ := Aside0.mk (below_step zb hb)
                 clear HO950
                 clear HO960
                 clear HO970
                 clear HO979
                 clear HO986
                 clear HO989
                 clear BK928
                 clear BK937
                 clear BK944
                 clear BK973
                 clear BK982
                 clear HB
                 have HO950 := n0_
                 have HO960 := n1_
                 have HO970 := n2_
                 have HO979 := n3_
                 have HO986 := n4_
                 have HO989 := n5_
                 have BK928 := n6_
                 have BK937 := n7_
                 have BK944 := n8_
                 have BK973 := n9_
                 have BK982 := n10_
                 have HB := n11_
                 clear n0_ n1_ n2_ n3_ n4_ n5_ n6_ n7_ n8_ n9_ n10_ n11_
                 (try clear hb)
                 (try clear hb2)
                 (try clear hk)
                 (try clear hi)
                 refine hK.out _ _ ⟨(blk_cell BK937.out 0).trans rfl, (blk_cell BK937.out 1).trans rfl, (blk_cell BK937.out 2).trans rfl, (blk_cell BK937.out 3).trans rfl, (blk_cell BK937.out 4).trans rfl, (blk_cell BK944.out 0).trans rfl, (blk_cell BK944.out 1).trans rfl, (blk_cell BK944.out 2).trans rfl, (blk_cell BK944.out 3).trans rfl, (blk_cell BK944.out 4).trans rfl, (blk_cell BK973.out 0).trans rfl, (blk_cell BK973.out 1).trans rfl, (blk_cell BK973.out 2).trans rfl, (blk_cell BK973.out 3).trans rfl, (blk_cell BK982.out 0).trans rfl, (blk_cell BK982.out 1).trans rfl, (blk_cell BK982.out 2).trans rfl, (blk_cell BK982.out 3).trans rfl, (blk_cell BK928.out 0).trans rfl, (blk_cell BK928.out 1).trans rfl, (blk_cell BK928.out 2).trans rfl, (blk_cell BK928.out 3).trans rfl⟩ (fun hHeld => ?_)
                 clear hK K
                 refine norm_ (a' := ?_) ?_ ?_
                 rotate_left
                 ·show Act.put _ (some 139) _ = _
                  simp only [Act.put, List.setIfInBounds_toArray, List.set_cons_zero, List.set_cons_succ, i64_w, i32_w]
                  rfl
                 refine pu 55 (some 140) (bm 67 72057594037927935) (h := ?_)
                 refine pu 56 (some 141) (bm 67 144115188075855871) (h := ?_)
                 refine pu 57 (some 142) (bm 67 288230376151711743) (h := ?_)
                 refine pu 58 (some 143) (bm 67 576460752303423487) (h := ?_)
                 refine pu 61 (some 146) (bm 67 2882303761517117439) (h := ?_)
                 refine tk 59 (some 144) (bm 67 3458764513820540927) hHeld (h := ?_)
                 refine tk 62 (some 147) (bm 67 8070450532247928831) hHeld (h := ?_)
                 refine one_ (i := 60) (N := some 145) (bm 67 9223372036854775807) rfl rfl (one_of HT_.out (by kernel_rfl)) (by decide) (fun K hK => ?_)
                 refine goes_ Tryd.func24 (by kernel_rfl) rfl #[.int .i64 a0, .agg #[.int .i64 a1_0, .int .u64 a1_1, .string a1_2, .slice A1_3 l1_3.length c1_3]] (by rfl) rfl rfl za ?_
                 with_reducible refine (amqprim_Fits.calls a0 a1_0 a1_1 a1_2 _ _ l1_3 t993 _ ?side1 ?side2 ?side3 A44.out).mono ?_
                 (case side1 => exact HT.out.below zb)
                 (case side2 => repeat (first | exact (Kd.C_below HR1_3.out HB.out) | (with_reducible refine Kd.C_alloc ?_ _) | (with_reducible refine Kd.C_drewN ?_ _) | (with_reducible refine Kd.C_drew ?_)))
                 (case side3 => exact HC1_3.out)
                 rintro e w91 ⟨rfl, hb⟩
                 refine ⟨_, rfl, ?_⟩
                 have n0_ := Aside0.mk (Kd.R_below (zr HO950.out) hb)
                 have n1_ := Aside0.mk (Kd.R_below (zr HO960.out) hb)
                 have n2_ := Aside0.mk (Kd.R_below (zr HO970.out) hb)
                 have n3_ := Aside0.mk (Kd.R_below (zr HO979.out) hb)
                 have n4_ := Aside0.mk (Kd.R_below (zr HO986.out) hb)
                 have n5_ := Aside0.mk (Kd.R_below (zr HO989.out) hb)
                 have n6_ := Aside0.mk (zbb BK928.out hb)
                 have n7_ := Aside0.mk (zbb BK937.out hb)
                 have n8_ := Aside0.mk (zbb BK944.out hb)
                 have n9_ := Aside0.mk (zbb BK973.out hb)
                 have n10_ := Aside0.mk (zbb BK982.out hb)
                 have n11_ := Aside0.mk (below_step zb hb)
                 clear HO950
                 clear HO960
                 clear HO970
                 clear HO979
                 clear HO986
                 clear HO989
                 clear BK928
                 clear BK937
                 clear BK944
                 clear BK973
                 clear BK982
                 clear HB
                 have HO950 := n0_
                 have HO960 := n1_
                 have HO970 := n2_
                 have HO979 := n3_
                 have HO986 := n4_
                 have HO989 := n5_
                 have BK928 := n6_
                 have BK937 := n7_
                 have BK944 := n8_
                 have BK973 := n9_
                 have BK982 := n10_
                 have HB := n11_
                 clear n0_ n1_ n2_ n3_ n4_ n5_ n6_ n7_ n8_ n9_ n10_ n11_
                 (try clear hb)
                 (try clear hb2)
                 (try clear hk)
                 (try clear hi)
                 refine hK.out _ _ ⟨(blk_cell BK937.out 0).trans rfl, (blk_cell BK937.out 1).trans rfl, (blk_cell BK937.out 2).trans rfl, (blk_cell BK937.out 3).trans rfl, (blk_cell BK937.out 4).trans rfl, (blk_cell BK944.out 0).trans rfl, (blk_cell BK944.out 1).trans rfl, (blk_cell BK944.out 2).trans rfl, (blk_cell BK944.out 3).trans rfl, (blk_cell BK944.out 4).trans rfl, (blk_cell BK973.out 0).trans rfl, (blk_cell BK973.out 1).trans rfl, (blk_cell BK973.out 2).trans rfl, (blk_cell BK973.out 3).trans rfl, (blk_cell BK982.out 0).trans rfl, (blk_cell BK982.out 1).trans rfl, (blk_cell BK982.out 2).trans rfl, (blk_cell BK982.out 3).trans rfl, (blk_cell BK928.out 0).trans rfl, (blk_cell BK928.out 1).trans rfl, (blk_cell BK928.out 2).trans rfl, (blk_cell BK928.out 3).trans rfl⟩ (fun hHeld => ?_)
                 clear hK K
                 refine norm_ (a' := ?_) ?_ ?_
                 rotate_left
                 ·show Act.put _ (some 145) _ = _
                  simp only [Act.put, List.setIfInBounds_toArray, List.set_cons_zero, List.set_cons_succ, i64_w, i32_w]
                  rfl
                 refine one_ (i := 63) (N := some 148) (bm 67 18446744073709551615) rfl rfl (one_of HT_.out (by kernel_rfl)) (by decide) (fun K hK => ?_)
                 refine goes_ Tryd.func48 (by kernel_rfl) rfl #[.int .i64 a0, .agg #[.int .i64 a1_0, .int .u64 a1_1, .string a1_2, .slice A1_3 l1_3.length c1_3]] (by rfl) rfl rfl za ?_
                 with_reducible refine (polyglotref16_Fits.calls kj6 a0 a1_0 a1_1 a1_2 _ _ l1_3 t994 _ ?side1 ?side2 A45.out).mono ?_
                 (case side1 => repeat (first | exact (Kd.C_below HR1_3.out HB.out) | (with_reducible refine Kd.C_alloc ?_ _) | (with_reducible refine Kd.C_drewN ?_ _) | (with_reducible refine Kd.C_drew ?_)))
                 (case side2 => exact HC1_3.out)
                 rintro e w92 ⟨rfl, hb⟩
                 refine ⟨_, rfl, ?_⟩
                 have n0_ := Aside0.mk (Kd.R_below (zr HO950.out) hb)
                 have n1_ := Aside0.mk (Kd.R_below (zr HO960.out) hb)
                 have n2_ := Aside0.mk (Kd.R_below (zr HO970.out) hb)
                 have n3_ := Aside0.mk (Kd.R_below (zr HO979.out) hb)
                 have n4_ := Aside0.mk (Kd.R_below (zr HO986.out) hb)
                 have n5_ := Aside0.mk (Kd.R_below (zr HO989.out) hb)
                 have n6_ := Aside0.mk (zbb BK928.out hb)
                 have n7_ := Aside0.mk (zbb BK937.out hb)
                 have n8_ := Aside0.mk (zbb BK944.out hb)
                 have n9_ := Aside0.mk (zbb BK973.out hb)
                 have n10_ := Aside0.mk (zbb BK982.out hb)
                 have n11_ := Aside0.mk (below_step zb hb)
                 clear HO950
                 clear HO960
                 clear HO970
                 clear HO979
                 clear HO986
                 clear HO989
                 clear BK928
                 clear BK937
                 clear BK944
                 clear BK973
                 clear BK982
                 clear HB
                 have HO950 := n0_
                 have HO960 := n1_
                 have HO970 := n2_
                 have HO979 := n3_
                 have HO986 := n4_
                 have HO989 := n5_
                 have BK928 := n6_
                 have BK937 := n7_
                 have BK944 := n8_
                 have BK973 := n9_
                 have BK982 := n10_
                 have HB := n11_
                 clear n0_ n1_ n2_ n3_ n4_ n5_ n6_ n7_ n8_ n9_ n10_ n11_
                 (try clear hb)
                 (try clear hb2)
                 (try clear hk)
                 (try clear hi)
                 refine hK.out _ _ ⟨(blk_cell BK937.out 0).trans rfl, (blk_cell BK937.out 1).trans rfl, (blk_cell BK937.out 2).trans rfl, (blk_cell BK937.out 3).trans rfl, (blk_cell BK937.out 4).trans rfl, (blk_cell BK944.out 0).trans rfl, (blk_cell BK944.out 1).trans rfl, (blk_cell BK944.out 2).trans rfl, (blk_cell BK944.out 3).trans rfl, (blk_cell BK944.out 4).trans rfl, (blk_cell BK973.out 0).trans rfl, (blk_cell BK973.out 1).trans rfl, (blk_cell BK973.out 2).trans rfl, (blk_cell BK973.out 3).trans rfl, (blk_cell BK982.out 0).trans rfl, (blk_cell BK982.out 1).trans rfl, (blk_cell BK982.out 2).trans rfl, (blk_cell BK982.out 3).trans rfl, (blk_cell BK928.out 0).trans rfl, (blk_cell BK928.out 1).trans rfl, (blk_cell BK928.out 2).trans rfl, (blk_cell BK928.out 3).trans rfl⟩ (fun hHeld => ?_)
                 clear hK K
                 refine norm_ (a' := ?_) ?_ ?_
                 rotate_left
                 ·show Act.put _ (some 148) _ = _
                  simp only [Act.put, List.setIfInBounds_toArray, List.set_cons_zero, List.set_cons_succ, i64_w, i32_w]
                  rfl
                 refine pu 64 (some 149) (bm 67 36893488147419103231) (h := ?_)
                 refine pu 65 (some 150) (bm 67 73786976294838206463) (h := ?_)
                 refine pu 66 (some 8) (bm 67 147573952589676412927) (h := ?_)
                 refine done_ (done_of HT_.out (by kernel_rfl)) ?_
                 try go_wp2
                 go_ret
                 exact ⟨ze, zb⟩
                ·rw [if_neg c43] at H
                 exact absurd H (by simp)
               ·replace c40 := Bool.eq_false_iff.mpr c40
                subst c40
                replace H := zno H
                exact absurd H (by simp)
              ·rw [if_neg c36] at H
               exact absurd H (by simp)
             ·rw [if_neg c35] at H
              exact absurd H (by simp)
            ·replace c34 := Bool.eq_false_iff.mpr c34
             subst c34
             replace H := zno H
             exact absurd H (by simp)
           ·rw [if_neg c32] at H
            exact absurd H (by simp)
          ·rw [if_neg c31] at H
           exact absurd H (by simp)
         ·rw [if_neg c30] at H
          exact absurd H (by simp)
        ·rw [if_neg c29] at H
         exact absurd H (by simp)
       ·rw [if_neg c28] at H
        exact absurd H (by simp)
      ·rw [if_neg c27] at H
       exact absurd H (by simp)
  ·replace c6 := Bool.eq_false_iff.mpr c6
   subst c6
   replace H := zno H
   exact absurd H (by simp)
end Go.Proofs.YtekpofpgkokoiaaDoor.Q
