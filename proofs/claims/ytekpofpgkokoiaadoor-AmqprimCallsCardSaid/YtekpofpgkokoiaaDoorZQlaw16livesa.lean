/- A part of this claim: what its theorem leans on. -/
import Derived.Test.YtekpofpgkokoiaaDoorZQ0
import Derived.Test.YtekpofpgkokoiaaDoorZZz
import Derived.Test.YtekpofpgkokoiaaDoorZQpolyglotkitaD
import Derived.Test.YtekpofpgkokoiaaDoorZQlaw16livesaD
import Derived.Test.YtekpofpgkokoiaaDoorZQpolyglotkita
namespace Go.Proofs.YtekpofpgkokoiaaDoor.Q
open Go.RowKit Go.Proofs.YtekpofpgkokoiaaDoor.M Go.Proofs.YtekpofpgkokoiaaDoorW.PrintWords Go.Proofs.YtekpofpgkokoiaaDoorW.PrintLast Go.Proofs.YtekpofpgkokoiaaDoorW.PrintMore
attribute [local go_sem] max2_int min2_int max_two min_two max_three min_three max_four min_four
set_option linter.unusedVariables false
set_option linter.unusedSimpArgs false
set_option maxHeartbeats 8000000 in
set_option maxRecDepth 100000 in
theorem polyglotlaw16_lives.calls  (r : Bool) (w : World) (hT : Tb w) (h : polyglotlaw16_lives.f  = some r) :
    Calls Tryd.prog 18 #[] w fun e w' => e = .returned (.bool r) ∧ Below w.heap.size w w' := by
  have HB := Aside0.mk (Below.refl w.heap.size w)
  have HT := Aside0.mk hT
  clear hT
  have H : ((polyglotkit_N.f 5 0).bind fun bt102 => ((amqprim_Least.f bt102.1 bt102.2.1 bt102.2.2.1 bt102.2.2.2).bind fun bt108 => ((polyglotkit_N.f 5 200).bind fun bt110 => ((amqprim_Least.f bt110.1 bt110.2.1 bt110.2.2.1 bt110.2.2.2).bind fun bt116 => ((polyglotkit_N.f 5 300).bind fun bt118 => ((amqprim_Put.f 112 bt118.1 bt118.2.1 bt118.2.2.1 bt118.2.2.2).bind fun bt124 => (if bt108.2 = 0 then (if bt116.2 = 0 then (if bt124.2 = 0 then (if bt108.1 = 67 then (if bt116.1 = 82 then (some (bt124.1.toList == ([0, 0, 1, 44] : List UInt8))) else (none)) else (none)) else (none)) else (none)) else (none)))))))) = some r := h
  clear h
  obtain ⟨⟨t102, t103, t104, t105⟩, A1, H⟩ := zbd H
  dsimp only at H
  obtain ⟨⟨t108, t109⟩, A2, H⟩ := zbd H
  dsimp only at H
  obtain ⟨⟨t110, t111, t112, t113⟩, A3, H⟩ := zbd H
  dsimp only at H
  obtain ⟨⟨t116, t117⟩, A4, H⟩ := zbd H
  dsimp only at H
  obtain ⟨⟨t118, t119, t120, t121⟩, A5, H⟩ := zbd H
  dsimp only at H
  obtain ⟨⟨t124, t125⟩, A6, H⟩ := zbd H
  dsimp only at H
  by_cases c7 : t109 = 0
  ·rw [if_pos c7] at H
   have c7b0 : (t109 == 0) = true := beq_iff_eq.mpr c7
   have c7b1 : (t109 != 0) = false := bne_eq_false_iff_eq.mpr c7
   clear c7
   by_cases c8 : t117 = 0
   ·rw [if_pos c8] at H
    have c8b0 : (t117 == 0) = true := beq_iff_eq.mpr c8
    have c8b1 : (t117 != 0) = false := bne_eq_false_iff_eq.mpr c8
    clear c8
    by_cases c9 : t125 = 0
    ·rw [if_pos c9] at H
     have c9b0 : (t125 == 0) = true := beq_iff_eq.mpr c9
     have c9b1 : (t125 != 0) = false := bne_eq_false_iff_eq.mpr c9
     clear c9
     by_cases c10 : t108 = 67
     ·rw [if_pos c10] at H
      have c10b0 : (t108 == 67) = true := beq_iff_eq.mpr c10
      have c10b1 : (t108 != 67) = false := bne_eq_false_iff_eq.mpr c10
      clear c10
      by_cases c11 : t116 = 82
      ·rw [if_pos c11] at H
       have c11b0 : (t116 == 82) = true := beq_iff_eq.mpr c11
       have c11b1 : (t116 != 82) = false := bne_eq_false_iff_eq.mpr c11
       clear c11
       obtain rfl := Option.some.inj H
       go_enter Tryd.func18, Tryd.ntmps18
       go_wp2_with (first | ((with_reducible refine gate_callee (f := 35) rfl ?_); refine goesL_ (some 8) rfl rfl Tryd.func35 (by kernel_rfl) rfl #[.int .i64 5, .int .u64 0] rfl za ?_; (with_reducible refine (polyglotkit_N.calls 5 0 t102 t103 t104 t105 _ A1.out).mono ?_); rintro e w12 ⟨v106, rfl, ho0, hb⟩; refine ⟨_, rfl, ?_⟩; have HO107 := Aside0.mk (Kd.R_lower ho0 (below_size zb)); replace HB := Aside0.mk (below_step zb hb); (try clear hb); (try clear hb2); (try clear hk); (try clear hi); (try clear ho0); obtain ⟨Ao13, co13, eo13⟩ := Kd.R_slice HO107.out; subst eo13) | ((with_reducible refine gate_callee (f := 41) rfl ?_); refine goesL_ (some 9) rfl rfl Tryd.func41 (by kernel_rfl) rfl #[.agg #[.int .i64 t102, .int .u64 t103, .string t104, .slice Ao13 t105.length co13]] rfl za ?_; (with_reducible refine (amqprim_Least.calls t102 t103 t104 _ _ t105 t108 t109 _ ?side1 ?side2 ?side3 A2.out).mono ?_); (case side1 => exact HT.out.below zb); (case side2 => repeat (first | exact (Kd.R_reads' HO107.out).2.2 | (with_reducible refine Kd.C_alloc ?_ _) | (with_reducible refine Kd.C_drewN ?_ _) | (with_reducible refine Kd.C_drew ?_))); (case side3 => exact (Kd.R_reads' HO107.out).2.1); rintro e w14 ⟨rfl, hb⟩; refine ⟨_, rfl, ?_⟩; replace HO107 := Aside0.mk (Kd.R_below (zr HO107.out) hb); replace HB := Aside0.mk (below_step zb hb); (try clear hb); (try clear hb2); (try clear hk); (try clear hi)) | ((with_reducible refine gate_callee (f := 35) rfl ?_); refine goesL_ (some 13) rfl rfl Tryd.func35 (by kernel_rfl) rfl #[.int .i64 5, .int .u64 200] rfl za ?_; (with_reducible refine (polyglotkit_N.calls 5 200 t110 t111 t112 t113 _ A3.out).mono ?_); rintro e w15 ⟨v114, rfl, ho0, hb⟩; refine ⟨_, rfl, ?_⟩; have HO115 := Aside0.mk (Kd.R_lower (Kd.R_new' ho0 (Kd.R_lt (zr HO107.out))) (below_size zb)); replace HO107 := Aside0.mk (Kd.R_elder' (zr HO107.out) (Kd.R_base ho0) hb); replace HB := Aside0.mk (below_step zb hb); (try clear hb); (try clear hb2); (try clear hk); (try clear hi); (try clear ho0); obtain ⟨Ao16, co16, eo16⟩ := Kd.R_slice HO115.out; subst eo16) | ((with_reducible refine gate_callee (f := 41) rfl ?_); refine goesL_ (some 14) rfl rfl Tryd.func41 (by kernel_rfl) rfl #[.agg #[.int .i64 t110, .int .u64 t111, .string t112, .slice Ao16 t113.length co16]] rfl za ?_; (with_reducible refine (amqprim_Least.calls t110 t111 t112 _ _ t113 t116 t117 _ ?side1 ?side2 ?side3 A4.out).mono ?_); (case side1 => exact HT.out.below zb); (case side2 => repeat (first | exact (Kd.R_reads' HO115.out).2.2 | (with_reducible refine Kd.C_alloc ?_ _) | (with_reducible refine Kd.C_drewN ?_ _) | (with_reducible refine Kd.C_drew ?_))); (case side3 => exact (Kd.R_reads' HO115.out).2.1); rintro e w17 ⟨rfl, hb⟩; refine ⟨_, rfl, ?_⟩; replace HO107 := Aside0.mk (Kd.R_below (zr HO107.out) hb); replace HO115 := Aside0.mk (Kd.R_below (zr HO115.out) hb); replace HB := Aside0.mk (below_step zb hb); (try clear hb); (try clear hb2); (try clear hk); (try clear hi)) | ((with_reducible refine gate_callee (f := 35) rfl ?_); refine goesL_ (some 18) rfl rfl Tryd.func35 (by kernel_rfl) rfl #[.int .i64 5, .int .u64 300] rfl za ?_; (with_reducible refine (polyglotkit_N.calls 5 300 t118 t119 t120 t121 _ A5.out).mono ?_); rintro e w18 ⟨v122, rfl, ho0, hb⟩; refine ⟨_, rfl, ?_⟩; have HO123 := Aside0.mk (Kd.R_lower (Kd.R_new' (Kd.R_new' ho0 (Kd.R_lt (zr HO107.out))) (Kd.R_lt (zr HO115.out))) (below_size zb)); replace HO107 := Aside0.mk (Kd.R_elder' (zr HO107.out) (Kd.R_base ho0) hb); replace HO115 := Aside0.mk (Kd.R_elder' (zr HO115.out) (Kd.R_base ho0) hb); replace HB := Aside0.mk (below_step zb hb); (try clear hb); (try clear hb2); (try clear hk); (try clear hi); (try clear ho0); obtain ⟨Ao19, co19, eo19⟩ := Kd.R_slice HO123.out; subst eo19) | ((with_reducible refine gate_callee (f := 25) rfl ?_); refine goesL_ (some 19) rfl rfl Tryd.func25 (by kernel_rfl) rfl #[.int .i64 112, .agg #[.int .i64 t118, .int .u64 t119, .string t120, .slice Ao19 t121.length co19]] rfl za ?_; (with_reducible refine (amqprim_Put.calls 112 t118 t119 t120 _ _ t121 t124 t125 _ ?side1 ?side2 ?side3 A6.out).mono ?_); (case side1 => exact HT.out.below zb); (case side2 => repeat (first | exact (Kd.R_reads' HO123.out).2.2 | (with_reducible refine Kd.C_alloc ?_ _) | (with_reducible refine Kd.C_drewN ?_ _) | (with_reducible refine Kd.C_drew ?_))); (case side3 => exact (Kd.R_reads' HO123.out).2.1); rintro e w20 ⟨rfl, hb⟩; refine ⟨_, rfl, ?_⟩; replace HO107 := Aside0.mk (Kd.R_below (zr HO107.out) hb); replace HO115 := Aside0.mk (Kd.R_below (zr HO115.out) hb); replace HO123 := Aside0.mk (Kd.R_below (zr HO123.out) hb); replace HB := Aside0.mk (below_step zb hb); (try clear hb); (try clear hb2); (try clear hk); (try clear hi)))
       go_ret
       exact ⟨ze, zb⟩
      ·rw [if_neg c11] at H
       exact absurd H (by simp)
     ·rw [if_neg c10] at H
      exact absurd H (by simp)
    ·rw [if_neg c9] at H
     exact absurd H (by simp)
   ·rw [if_neg c8] at H
    exact absurd H (by simp)
  ·rw [if_neg c7] at H
   exact absurd H (by simp)
end Go.Proofs.YtekpofpgkokoiaaDoor.Q
