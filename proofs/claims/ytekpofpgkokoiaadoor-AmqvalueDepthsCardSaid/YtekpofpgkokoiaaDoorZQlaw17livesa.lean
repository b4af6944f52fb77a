/- A part of this claim: what its theorem leans on. -/
import Derived.Test.YtekpofpgkokoiaaDoorZQ0
import Derived.Test.YtekpofpgkokoiaaDoorZQpolyglotkitaD
import Derived.Test.YtekpofpgkokoiaaDoorZQkitSameaD
import Derived.Test.YtekpofpgkokoiaaDoorZQlaw17livesaD
import Derived.Test.YtekpofpgkokoiaaDoorZQpolyglotkita
import Derived.Test.YtekpofpgkokoiaaDoorZQkitSamea
import Derived.Test.YtekpofpgkokoiaaDoorZVj
namespace Go.Proofs.YtekpofpgkokoiaaDoor.Q
open Go.RowKit Go.Proofs.YtekpofpgkokoiaaDoor.M Go.Proofs.YtekpofpgkokoiaaDoorW.PrintWords Go.Proofs.YtekpofpgkokoiaaDoorW.PrintLast Go.Proofs.YtekpofpgkokoiaaDoorW.PrintMore
attribute [local go_sem] max2_int min2_int max_two min_two max_three min_three max_four min_four
set_option linter.unusedVariables false
set_option linter.unusedSimpArgs false
def polyglotlaw17_lives.T4 : Bool × List (List Nat × List Nat) := (true, [([], []), ([0], [0]), ([1], [1]), ([2], [2]), ([3, 2], [2, 3]), ([2, 4], [2, 4]), ([5, 2], [5]), ([6], [6]), ([7, 6], [6, 7]), ([6, 8], [6, 8]), ([9, 6], [9]), ([10], [10]), ([11, 10], [10, 11]), ([10, 12], [10, 12]), ([13, 10], [13]), ([14], [14]), ([14, 14], [14]), ([16, 14], [14]), ([16, 17, 14], [14, 16, 17]), ([18, 17, 14], [14, 18]), ([15, 19, 19, 14], [14, 15, 19]), ([14, 20], [14, 20]), ([21, 20], [21]), ([22], [22]), ([22], [22]), ([22, 22], [22]), ([24, 25, 22], [22, 24, 25]), ([26, 22], [22, 26]), ([23, 27, 25, 22], [22, 23, 27]), ([22, 28], [22, 28]), ([29, 28, 0, 1, 2, 3, 4, 5, 6, 7, 8, 9, 10, 11, 12, 13, 14, 15, 16, 17, 18, 19, 20, 21, 22, 23, 24, 25, 26, 27, 28, 29], [29])])
def polyglotlaw17_lives.B4 : List Nat := [0, 1, 3, 7, 15, 31, 63, 127, 255, 511, 1023, 2047, 4095, 8191, 16383, 32767, 32767, 98303, 229375, 491519, 1048575, 2097151, 4194303, 8388607, 8388607, 8388607, 58720255, 125829119, 268435455, 536870911, 1073741823]
theorem polyglotlaw17_lives.tab4 : rtab .any (opsOf Tryd.f27 4) = polyglotlaw17_lives.T4 := by kernel_rfl
theorem polyglotlaw17_lives.bits4 : waitsOk polyglotlaw17_lives.T4.2 polyglotlaw17_lives.B4 = true := by kernel_rfl
set_option maxHeartbeats 8000000 in
set_option maxRecDepth 100000 in
theorem polyglotlaw17_lives.calls (k : Nat)  (r : Bool) (w : World) (hT : Tb w) (h : polyglotlaw17_lives.f k  = some r) :
    Calls Tryd.prog 27 #[] w fun e w' => e = .returned (.bool r) ∧ Below w.heap.size w w' := by
  have hu25 := Tryd.underlying25
  have HB := Aside0.mk (Below.refl w.heap.size w)
  have HT := Aside0.mk hT
  clear hT
  have H : ((amqvalue_Read.f (⟨#[192, 3, 2, 65, 64]⟩ : ByteArray) 2).bind fun bt205 => ((amqvalue_Read.f (⟨#[224, 4, 2, 80, 1, 2]⟩ : ByteArray) 2).bind fun bt214 => ((polyglotkit_N.f 3 1).bind fun bt223 => (if bt205.2.2.2.2.2 = 0 then (if bt214.2.2.2.2.2 = 0 then (if bt205.2.2.2.2.1 = 5 then (if bt214.2.2.2.2.1 = 6 then ((polyglotkit_N.f 2 1).bind fun bt230 => ((polyglotkit_N.f 1 0).bind fun bt236 => ((polyglotkit_L.f (([(⟨bt230.1, bt230.2.1, bt230.2.2.1, bt230.2.2.2⟩ : Vl), (⟨bt236.1, bt236.2.1, bt236.2.2.1, bt236.2.2.2⟩ : Vl)] : List (Vl)))).bind fun bt245 => ((polyglotkit_SameValue.f k bt205.1 bt205.2.1 bt205.2.2.1 bt205.2.2.2.1 bt245.1 bt245.2.1 bt245.2.2.1 bt245.2.2.2).bind fun t251 => (if t251 = true then ((polyglotkit_N.f 3 2).bind fun bt252 => ((polyglotkit_SameValue.f k bt214.1 bt214.2.1 bt214.2.2.1 bt214.2.2.2.1 24 3 (⟨#[]⟩ : ByteArray) (([(⟨bt223.1, bt223.2.1, bt223.2.2.1, bt223.2.2.2⟩ : Vl), (⟨bt252.1, bt252.2.1, bt252.2.2.1, bt252.2.2.2⟩ : Vl)] : List (Vl)))).bind fun t261 => (some t261))) else (none)))))) else (none)) else (none)) else (none)) else (none))))) = some r := h
  clear h
  replace H := Option.bind_eq_some_iff.mp H
  obtain ⟨⟨t205, t206, t207, t208, t211, t212⟩, A10, H⟩ := H
  replace H : ((amqvalue_Read.f (⟨#[224, 4, 2, 80, 1, 2]⟩ : ByteArray) 2).bind fun bt214 => ((polyglotkit_N.f 3 1).bind fun bt223 => (if t212 = 0 then (if bt214.2.2.2.2.2 = 0 then (if t211 = 5 then (if bt214.2.2.2.2.1 = 6 then ((polyglotkit_N.f 2 1).bind fun bt230 => ((polyglotkit_N.f 1 0).bind fun bt236 => ((polyglotkit_L.f (([(⟨bt230.1, bt230.2.1, bt230.2.2.1, bt230.2.2.2⟩ : Vl), (⟨bt236.1, bt236.2.1, bt236.2.2.1, bt236.2.2.2⟩ : Vl)] : List (Vl)))).bind fun bt245 => ((polyglotkit_SameValue.f k t205 t206 t207 t208 bt245.1 bt245.2.1 bt245.2.2.1 bt245.2.2.2).bind fun t251 => (if t251 = true then ((polyglotkit_N.f 3 2).bind fun bt252 => ((polyglotkit_SameValue.f k bt214.1 bt214.2.1 bt214.2.2.1 bt214.2.2.2.1 24 3 (⟨#[]⟩ : ByteArray) (([(⟨bt223.1, bt223.2.1, bt223.2.2.1, bt223.2.2.2⟩ : Vl), (⟨bt252.1, bt252.2.1, bt252.2.2.1, bt252.2.2.2⟩ : Vl)] : List (Vl)))).bind fun t261 => (some t261))) else (none)))))) else (none)) else (none)) else (none)) else (none)))) = some r := H
  have A1 := Aside0.mk A10
  clear A10
  replace H := Option.bind_eq_some_iff.mp H
  obtain ⟨⟨t214, t215, t216, t217, t220, t221⟩, A20, H⟩ := H
  replace H : ((polyglotkit_N.f 3 1).bind fun bt223 => (if t212 = 0 then (if t221 = 0 then (if t211 = 5 then (if t220 = 6 then ((polyglotkit_N.f 2 1).bind fun bt230 => ((polyglotkit_N.f 1 0).bind fun bt236 => ((polyglotkit_L.f (([(⟨bt230.1, bt230.2.1, bt230.2.2.1, bt230.2.2.2⟩ : Vl), (⟨bt236.1, bt236.2.1, bt236.2.2.1, bt236.2.2.2⟩ : Vl)] : List (Vl)))).bind fun bt245 => ((polyglotkit_SameValue.f k t205 t206 t207 t208 bt245.1 bt245.2.1 bt245.2.2.1 bt245.2.2.2).bind fun t251 => (if t251 = true then ((polyglotkit_N.f 3 2).bind fun bt252 => ((polyglotkit_SameValue.f k t214 t215 t216 t217 24 3 (⟨#[]⟩ : ByteArray) (([(⟨bt223.1, bt223.2.1, bt223.2.2.1, bt223.2.2.2⟩ : Vl), (⟨bt252.1, bt252.2.1, bt252.2.2.1, bt252.2.2.2⟩ : Vl)] : List (Vl)))).bind fun t261 => (some t261))) else (none)))))) else (none)) else (none)) else (none)) else (none))) = some r := H
  have A2 := Aside0.mk A20
  clear A20
  replace H := Option.bind_eq_some_iff.mp H
  obtain ⟨⟨t223, t224, t225, t226⟩, A30, H⟩ := H
  replace H : (if t212 = 0 then (if t221 = 0 then (if t211 = 5 then (if t220 = 6 then ((polyglotkit_N.f 2 1).bind fun bt230 => ((polyglotkit_N.f 1 0).bind fun bt236 => ((polyglotkit_L.f (([(⟨bt230.1, bt230.2.1, bt230.2.2.1, bt230.2.2.2⟩ : Vl), (⟨bt236.1, bt236.2.1, bt236.2.2.1, bt236.2.2.2⟩ : Vl)] : List (Vl)))).bind fun bt245 => ((polyglotkit_SameValue.f k t205 t206 t207 t208 bt245.1 bt245.2.1 bt245.2.2.1 bt245.2.2.2).bind fun t251 => (if t251 = true then ((polyglotkit_N.f 3 2).bind fun bt252 => ((polyglotkit_SameValue.f k t214 t215 t216 t217 24 3 (⟨#[]⟩ : ByteArray) (([(⟨t223, t224, t225, t226⟩ : Vl), (⟨bt252.1, bt252.2.1, bt252.2.2.1, bt252.2.2.2⟩ : Vl)] : List (Vl)))).bind fun t261 => (some t261))) else (none)))))) else (none)) else (none)) else (none)) else (none)) = some r := H
  have A3 := Aside0.mk A30
  clear A30
  by_cases c4 : t212 = 0
  ·rw [if_pos c4] at H
   have c4b0 : (t212 == 0) = true := beq_iff_eq.mpr c4
   have c4b1 : (t212 != 0) = false := bne_eq_false_iff_eq.mpr c4
   clear c4
   by_cases c5 : t221 = 0
   ·rw [if_pos c5] at H
    have c5b0 : (t221 == 0) = true := beq_iff_eq.mpr c5
    have c5b1 : (t221 != 0) = false := bne_eq_false_iff_eq.mpr c5
    clear c5
    by_cases c6 : t211 = 5
    ·rw [if_pos c6] at H
     have c6b0 : (t211 == 5) = true := beq_iff_eq.mpr c6
     have c6b1 : (t211 != 5) = false := bne_eq_false_iff_eq.mpr c6
     clear c6
     by_cases c7 : t220 = 6
     ·rw [if_pos c7] at H
      have c7b0 : (t220 == 6) = true := beq_iff_eq.mpr c7
      have c7b1 : (t220 != 6) = false := bne_eq_false_iff_eq.mpr c7
      clear c7
      replace H := Option.bind_eq_some_iff.mp H
      obtain ⟨⟨t230, t231, t232, t233⟩, A80, H⟩ := H
      replace H : ((polyglotkit_N.f 1 0).bind fun bt236 => ((polyglotkit_L.f (([(⟨t230, t231, t232, t233⟩ : Vl), (⟨bt236.1, bt236.2.1, bt236.2.2.1, bt236.2.2.2⟩ : Vl)] : List (Vl)))).bind fun bt245 => ((polyglotkit_SameValue.f k t205 t206 t207 t208 bt245.1 bt245.2.1 bt245.2.2.1 bt245.2.2.2).bind fun t251 => (if t251 = true then ((polyglotkit_N.f 3 2).bind fun bt252 => ((polyglotkit_SameValue.f k t214 t215 t216 t217 24 3 (⟨#[]⟩ : ByteArray) (([(⟨t223, t224, t225, t226⟩ : Vl), (⟨bt252.1, bt252.2.1, bt252.2.2.1, bt252.2.2.2⟩ : Vl)] : List (Vl)))).bind fun t261 => (some t261))) else (none))))) = some r := H
      have A8 := Aside0.mk A80
      clear A80
      replace H := Option.bind_eq_some_iff.mp H
      obtain ⟨⟨t236, t237, t238, t239⟩, A90, H⟩ := H
      replace H : ((polyglotkit_L.f (([(⟨t230, t231, t232, t233⟩ : Vl), (⟨t236, t237, t238, t239⟩ : Vl)] : List (Vl)))).bind fun bt245 => ((polyglotkit_SameValue.f k t205 t206 t207 t208 bt245.1 bt245.2.1 bt245.2.2.1 bt245.2.2.2).bind fun t251 => (if t251 = true then ((polyglotkit_N.f 3 2).bind fun bt252 => ((polyglotkit_SameValue.f k t214 t215 t216 t217 24 3 (⟨#[]⟩ : ByteArray) (([(⟨t223, t224, t225, t226⟩ : Vl), (⟨bt252.1, bt252.2.1, bt252.2.2.1, bt252.2.2.2⟩ : Vl)] : List (Vl)))).bind fun t261 => (some t261))) else (none)))) = some r := H
      have A9 := Aside0.mk A90
      clear A90
      obtain ⟨y242, hy242⟩ : ∃ y_ : List (Vl), y_ = (([(⟨t230, t231, t232, t233⟩ : Vl), (⟨t236, t237, t238, t239⟩ : Vl)] : List (Vl))) := ⟨_, rfl⟩
      replace H : ((polyglotkit_L.f y242).bind fun bt245 => ((polyglotkit_SameValue.f k t205 t206 t207 t208 bt245.1 bt245.2.1 bt245.2.2.1 bt245.2.2.2).bind fun t251 => (if t251 = true then ((polyglotkit_N.f 3 2).bind fun bt252 => ((polyglotkit_SameValue.f k t214 t215 t216 t217 24 3 (⟨#[]⟩ : ByteArray) (([(⟨t223, t224, t225, t226⟩ : Vl), (⟨bt252.1, bt252.2.1, bt252.2.2.1, bt252.2.2.2⟩ : Vl)] : List (Vl)))).bind fun t261 => (some t261))) else (none)))) = some r := by first | (rw [hy242]; with_reducible exact H) | (have H2_ := (Option.bind_some _ _).symm.trans H; rw [hy242]; with_reducible exact H2_) | (have H2_ := (Option.bind_some _ _).symm.trans H; with_reducible exact H2_) | with_reducible exact H | (rw [hy242]; exact H) | exact H
      have Ny242 := Aside0.mk hy242
      clear hy242
      replace H := Option.bind_eq_some_iff.mp H
      obtain ⟨⟨t245, t246, t247, t248⟩, A100, H⟩ := H
      replace H : ((polyglotkit_SameValue.f k t205 t206 t207 t208 t245 t246 t247 t248).bind fun t251 => (if t251 = true then ((polyglotkit_N.f 3 2).bind fun bt252 => ((polyglotkit_SameValue.f k t214 t215 t216 t217 24 3 (⟨#[]⟩ : ByteArray) (([(⟨t223, t224, t225, t226⟩ : Vl), (⟨bt252.1, bt252.2.1, bt252.2.2.1, bt252.2.2.2⟩ : Vl)] : List (Vl)))).bind fun t261 => (some t261))) else (none))) = some r := H
      have A10 := Aside0.mk A100
      clear A100
      replace H := Option.bind_eq_some_iff.mp H
      obtain ⟨t251, A110, H⟩ := H
      replace H : (if t251 = true then ((polyglotkit_N.f 3 2).bind fun bt252 => ((polyglotkit_SameValue.f k t214 t215 t216 t217 24 3 (⟨#[]⟩ : ByteArray) (([(⟨t223, t224, t225, t226⟩ : Vl), (⟨bt252.1, bt252.2.1, bt252.2.2.1, bt252.2.2.2⟩ : Vl)] : List (Vl)))).bind fun t261 => (some t261))) else (none)) = some r := H
      have A11 := Aside0.mk A110
      clear A110
      by_cases c12 : t251 = true
      ·subst c12
       have H1 : ((polyglotkit_N.f 3 2).bind fun bt252 => ((polyglotkit_SameValue.f k t214 t215 t216 t217 24 3 (⟨#[]⟩ : ByteArray) (([(⟨t223, t224, t225, t226⟩ : Vl), (⟨bt252.1, bt252.2.1, bt252.2.2.1, bt252.2.2.2⟩ : Vl)] : List (Vl)))).bind fun t261 => (some t261))) = some r := by rw [if_pos rfl] at H; exact H
       clear H
       have H := H1
       clear H1
       replace H := Option.bind_eq_some_iff.mp H
       obtain ⟨⟨t252, t253, t254, t255⟩, A130, H⟩ := H
       replace H : ((polyglotkit_SameValue.f k t214 t215 t216 t217 24 3 (⟨#[]⟩ : ByteArray) (([(⟨t223, t224, t225, t226⟩ : Vl), (⟨t252, t253, t254, t255⟩ : Vl)] : List (Vl)))).bind fun t261 => (some t261)) = some r := H
       have A13 := Aside0.mk A130
       clear A130
       obtain ⟨y258, hy258⟩ : ∃ y_ : List (Vl), y_ = (([(⟨t223, t224, t225, t226⟩ : Vl), (⟨t252, t253, t254, t255⟩ : Vl)] : List (Vl))) := ⟨_, rfl⟩
       replace H : ((polyglotkit_SameValue.f k t214 t215 t216 t217 24 3 (⟨#[]⟩ : ByteArray) y258).bind fun t261 => (some t261)) = some r := by first | (rw [hy258]; with_reducible exact H) | (have H2_ := (Option.bind_some _ _).symm.trans H; rw [hy258]; with_reducible exact H2_) | (have H2_ := (Option.bind_some _ _).symm.trans H; with_reducible exact H2_) | with_reducible exact H | (rw [hy258]; exact H) | exact H
       have Ny258 := Aside0.mk hy258
       clear hy258
       replace H := Option.bind_eq_some_iff.mp H
       obtain ⟨t261, A140, H⟩ := H
       replace H : (some t261) = some r := H
       have A14 := Aside0.mk A140
       clear A140
       obtain rfl := Option.some.inj H
       go_enter Tryd.func27, Tryd.ntmps27
       try go_wp2_with (first | ((with_reducible refine gate_callee (f := 30) rfl ?_); refine goesL_ (some 9) rfl rfl Tryd.func30 (by kernel_rfl) rfl #[.string (⟨#[192, 3, 2, 65, 64]⟩ : ByteArray), .int .i64 2] rfl (by (try simp only [List.map_toArray, List.map_cons, List.map_nil]); first | done | rfl | (simp only [List.length_drop, List.length_take]; rfl)) ?_; (with_reducible refine (amqvalue_Read.calls (⟨#[192, 3, 2, 65, 64]⟩ : ByteArray) 2 t205 t206 t207 t208 t211 t212 _ ?side1 A1.out).mono ?_); (case side1 => exact HT.out.below (by repeat (first | (with_reducible first | exact HB.out | apply below_alloc | apply pw_below_drewN | apply below_drew1) | exact HB.out))); rintro e w15 ⟨v209, rfl, ho0, hb⟩; refine ⟨_, rfl, ?_⟩; have n0_ := Aside0.mk (Kd.N_lower (Kd.N_mono (ok' := fun k_ => True) (Kd.R_N (Kd.R_bound ho0)) (fun k_ hk_ => trivial)) (below_size (by repeat (first | (with_reducible first | exact HB.out | apply below_alloc | apply pw_below_drewN | apply below_drew1) | exact HB.out)))); have n1_ := Aside0.mk (below_step (by repeat (first | (with_reducible first | exact HB.out | apply below_alloc | apply pw_below_drewN | apply below_drew1) | exact HB.out)) hb); clear HB; have HO210 := n0_; have HB := n1_; clear n0_ n1_; (try clear hb); (try clear hb2); (try clear hk); (try clear hi); (try clear ho0)) | ((with_reducible refine gate_dst (N := 1) rfl ?_); (try (refine gate_guard (by rfl) ?_; dsimp only)); refine box_event ?hg (N := 1) ?hd (cs := #[.int .i64 0, .int .u64 0, .string (⟨#[]⟩ : ByteArray), .slice none 0 0]) (t := 25) ?hr ?_; (case hd => rfl); (case hg => rfl); (case hr => first | (go_simp; done) | (go_simp; rfl)); intro gb213 hg w16 hbox hb; have n0_ := Aside0.mk (Kd.N_below (Kd.N_elderB (by (with_reducible repeat (first | apply Kd.N_alloc | apply Kd.N_drewN | apply Kd.N_drew)); exact HO210.out) gb213 (Nat.le_of_eq hg.symm)) hb); have n1_ := Aside0.mk (below_step (by repeat (first | (with_reducible first | exact HB.out | apply below_alloc | apply pw_below_drewN | apply below_drew1) | exact HB.out)) hb); have n2_ := Aside0.mk (hbox); have n3_ := Aside0.mk ((by rw [hg]; exact (below_size (by repeat (first | (with_reducible first | exact HB.out | apply below_alloc | apply pw_below_drewN | apply below_drew1) | exact HB.out))) : w.heap.size ≤ gb213)); have n4_ := Aside0.mk ((by rw [hg]; exact (below_size (by repeat (first | (with_reducible first | exact HB.out | apply below_alloc | apply pw_below_drewN | apply below_drew1) | exact HB.out))) : w.heap.size ≤ gb213)); clear HO210; clear HB; have HO210 := n0_; have HB := n1_; have BK213 := n2_; have GW213 := n3_; have GE213 := n4_; clear n0_ n1_ n2_ n3_ n4_; clear hb hbox hg; have hcz17_0 : w16.cell? ⟨gb213, 0, none⟩ = some (.int .i64 0) := (blk_cell BK213.out 0).trans rfl; have hcz17_1 : w16.cell? ⟨gb213, 1, none⟩ = some (.int .u64 0) := (blk_cell BK213.out 1).trans rfl; have hcz17_2 : w16.cell? ⟨gb213, 2, none⟩ = some (.string (⟨#[]⟩ : ByteArray)) := (blk_cell BK213.out 2).trans rfl; have hcz17_3 : w16.cell? ⟨gb213, 3, none⟩ = some (.slice none 0 0) := (blk_cell BK213.out 3).trans rfl; have hfz17_0 := blk_frozen BK213.out 0; have hfz17_1 := blk_frozen BK213.out 1; have hfz17_2 := blk_frozen BK213.out 2; have hfz17_3 := blk_frozen BK213.out 3; obtain ⟨Ao18, co18, eo18⟩ := Kd.N_slice HO210.out; subst eo18) | ((with_reducible refine gate_callee (f := 30) rfl ?_); refine goesL_ (some 14) rfl rfl Tryd.func30 (by kernel_rfl) rfl #[.string (⟨#[224, 4, 2, 80, 1, 2]⟩ : ByteArray), .int .i64 2] rfl (by (try simp only [List.map_toArray, List.map_cons, List.map_nil]); first | done | rfl | (simp only [List.length_drop, List.length_take]; rfl)) ?_; (with_reducible refine (amqvalue_Read.calls (⟨#[224, 4, 2, 80, 1, 2]⟩ : ByteArray) 2 t214 t215 t216 t217 t220 t221 _ ?side1 A2.out).mono ?_); (case side1 => exact HT.out.below (by repeat (first | (with_reducible first | exact HB.out | apply below_alloc | apply pw_below_drewN | apply below_drew1 | refine below_set ?_ GE213.out) | exact HB.out))); rintro e w19 ⟨v218, rfl, ho0, hb⟩; refine ⟨_, rfl, ?_⟩; have n0_ := Aside0.mk (Kd.N_elder' (by (with_reducible repeat (first | apply Kd.N_alloc | apply Kd.N_drewN | apply Kd.N_drew)); exact (Kd.N_mono (Kd.N_far (p := ⟨gb213, 3, none⟩) (Kd.N_far (p := ⟨gb213, 2, none⟩) (Kd.N_far (p := ⟨gb213, 1, none⟩) (Kd.N_far (p := ⟨gb213, 0, none⟩) (Kd.N_mono HO210.out (fun k_ hk => (⟨hk, hk.2⟩ : _ ∧ k_ ≠ gb213))) (fun _ hk => hk.2) (.int .i64 t205)) (fun _ hk => hk.2) (.int .u64 t206)) (fun _ hk => hk.2) (.string t207)) (fun _ hk => hk.2) (.slice Ao18 t208.length co18)) (fun _ h_ => h_.1))) (Kd.R_base ho0) hb); have n1_ := Aside0.mk (Kd.N_lower (Kd.N_mono (ok' := fun k_ => some k_ ≠ (.slice Ao18 t208.length co18 : Value).ownBlock ∧ k_ ≠ gb213) (Kd.R_N (Kd.R_bound ho0)) (fun k_ hk_ => ⟨(Kd.fresh' (Kd.N_lt (by (with_reducible repeat (first | apply Kd.N_alloc | apply Kd.N_drewN | apply Kd.N_drew)); exact (Kd.N_mono (Kd.N_far (p := ⟨gb213, 3, none⟩) (Kd.N_far (p := ⟨gb213, 2, none⟩) (Kd.N_far (p := ⟨gb213, 1, none⟩) (Kd.N_far (p := ⟨gb213, 0, none⟩) (Kd.N_mono HO210.out (fun k_ hk => (⟨hk, hk.2⟩ : _ ∧ k_ ≠ gb213))) (fun _ hk => hk.2) (.int .i64 t205)) (fun _ hk => hk.2) (.int .u64 t206)) (fun _ hk => hk.2) (.string t207)) (fun _ hk => hk.2) (.slice Ao18 t208.length co18)) (fun _ h_ => h_.1)))) k_ hk_.2.1), (Kd.freshB (g := gb213) (o := .cells #[.int .i64 t205, .int .u64 t206, .string t207, .slice Ao18 t208.length co18] 25 (0, 0)) (by (with_reducible repeat (first | refine blk_drewN ?_ _ | refine blk_drew ?_ | refine blk_alloc ?_ _)); refine blk_put (cs := #[.int .i64 t205, .int .u64 t206, .string t207, .slice none 0 0]) ?_ 3 _ rfl; (with_reducible repeat (first | refine blk_drewN ?_ _ | refine blk_drew ?_ | refine blk_alloc ?_ _)); refine blk_put (cs := #[.int .i64 t205, .int .u64 t206, .string (⟨#[]⟩ : ByteArray), .slice none 0 0]) ?_ 2 _ rfl; (with_reducible repeat (first | refine blk_drewN ?_ _ | refine blk_drew ?_ | refine blk_alloc ?_ _)); refine blk_put (cs := #[.int .i64 t205, .int .u64 0, .string (⟨#[]⟩ : ByteArray), .slice none 0 0]) ?_ 1 _ rfl; (with_reducible repeat (first | refine blk_drewN ?_ _ | refine blk_drew ?_ | refine blk_alloc ?_ _)); refine blk_put (cs := #[.int .i64 0, .int .u64 0, .string (⟨#[]⟩ : ByteArray), .slice none 0 0]) ?_ 0 _ rfl; (with_reducible repeat (first | refine blk_drewN ?_ _ | refine blk_drew ?_ | refine blk_alloc ?_ _)); exact BK213.out) k_ hk_.2.1)⟩)) (below_size (by repeat (first | (with_reducible first | exact HB.out | apply below_alloc | apply pw_below_drewN | apply below_drew1 | refine below_set ?_ GE213.out) | exact HB.out)))); have n2_ := Aside0.mk (blk_below (g := gb213) (o := .cells #[.int .i64 t205, .int .u64 t206, .string t207, .slice Ao18 t208.length co18] 25 (0, 0)) (by (with_reducible repeat (first | refine blk_drewN ?_ _ | refine blk_drew ?_ | refine blk_alloc ?_ _)); refine blk_put (cs := #[.int .i64 t205, .int .u64 t206, .string t207, .slice none 0 0]) ?_ 3 _ rfl; (with_reducible repeat (first | refine blk_drewN ?_ _ | refine blk_drew ?_ | refine blk_alloc ?_ _)); refine blk_put (cs := #[.int .i64 t205, .int .u64 t206, .string (⟨#[]⟩ : ByteArray), .slice none 0 0]) ?_ 2 _ rfl; (with_reducible repeat (first | refine blk_drewN ?_ _ | refine blk_drew ?_ | refine blk_alloc ?_ _)); refine blk_put (cs := #[.int .i64 t205, .int .u64 0, .string (⟨#[]⟩ : ByteArray), .slice none 0 0]) ?_ 1 _ rfl; (with_reducible repeat (first | refine blk_drewN ?_ _ | refine blk_drew ?_ | refine blk_alloc ?_ _)); refine blk_put (cs := #[.int .i64 0, .int .u64 0, .string (⟨#[]⟩ : ByteArray), .slice none 0 0]) ?_ 0 _ rfl; (with_reducible repeat (first | refine blk_drewN ?_ _ | refine blk_drew ?_ | refine blk_alloc ?_ _)); exact BK213.out) hb); have n3_ := Aside0.mk (below_step (by repeat (first | (with_reducible first | exact HB.out | apply below_alloc | apply pw_below_drewN | apply below_drew1 | refine below_set ?_ GE213.out) | exact HB.out)) hb); clear HO210; clear BK213; clear HB; have HO210 := n0_; have HO219 := n1_; have BK213 := n2_; have HB := n3_; clear n0_ n1_ n2_ n3_; (try clear hb); (try clear hb2); (try clear hk); (try clear hi); (try clear ho0)) | ((with_reducible refine gate_dst (N := 4) rfl ?_); (try (refine gate_guard (by rfl) ?_; dsimp only)); refine box_event ?hg (N := 4) ?hd (cs := #[.int .i64 0, .int .u64 0, .string (⟨#[]⟩ : ByteArray), .slice none 0 0]) (t := 25) ?hr ?_; (case hd => rfl); (case hg => rfl); (case hr => first | (go_simp; done) | (go_simp; rfl)); intro gb222 hg w20 hbox hb; have n0_ := Aside0.mk (Kd.N_below (Kd.N_elderB (by (with_reducible repeat (first | apply Kd.N_alloc | apply Kd.N_drewN | apply Kd.N_drew)); exact HO210.out) gb222 (Nat.le_of_eq hg.symm)) hb); have n1_ := Aside0.mk (Kd.N_below (Kd.N_elderB (by (with_reducible repeat (first | apply Kd.N_alloc | apply Kd.N_drewN | apply Kd.N_drew)); exact HO219.out) gb222 (Nat.le_of_eq hg.symm)) hb); have n2_ := Aside0.mk (blk_below (g := gb213) (o := .cells #[.int .i64 t205, .int .u64 t206, .string t207, .slice Ao18 t208.length co18] 25 (0, 0)) (by (with_reducible repeat (first | refine blk_drewN ?_ _ | refine blk_drew ?_ | refine blk_alloc ?_ _)); exact BK213.out) hb); have n3_ := Aside0.mk (below_step (by repeat (first | (with_reducible first | exact HB.out | apply below_alloc | apply pw_below_drewN | apply below_drew1 | refine below_set ?_ GE213.out) | exact HB.out)) hb); have n4_ := Aside0.mk (hbox); have n5_ := Aside0.mk ((by rw [hg]; exact (below_size (by repeat (first | (with_reducible first | exact HB.out | apply below_alloc | apply pw_below_drewN | apply below_drew1 | refine below_set ?_ GE213.out) | exact HB.out))) : w.heap.size ≤ gb222)); have n6_ := Aside0.mk ((by rw [hg]; exact (below_size (by repeat (first | (with_reducible first | exact HB.out | apply below_alloc | apply pw_below_drewN | apply below_drew1 | refine below_set ?_ GE213.out) | exact HB.out))) : w.heap.size ≤ gb222)); have n7_ := Aside0.mk ((by rw [hg]; exact Nat.ne_of_lt (blk_lt (g := gb213) (o := .cells #[.int .i64 t205, .int .u64 t206, .string t207, .slice Ao18 t208.length co18] 25 (0, 0)) (by (with_reducible repeat (first | refine blk_drewN ?_ _ | refine blk_drew ?_ | refine blk_alloc ?_ _)); exact BK213.out)) : gb213 ≠ gb222)); have n8_ := Aside0.mk ((by rw [hg]; exact Nat.ne_of_gt (blk_lt (g := gb213) (o := .cells #[.int .i64 t205, .int .u64 t206, .string t207, .slice Ao18 t208.length co18] 25 (0, 0)) (by (with_reducible repeat (first | refine blk_drewN ?_ _ | refine blk_drew ?_ | refine blk_alloc ?_ _)); exact BK213.out)) : gb222 ≠ gb213)); clear HO210; clear HO219; clear BK213; clear HB; have HO210 := n0_; have HO219 := n1_; have BK213 := n2_; have HB := n3_; have BK222 := n4_; have GW222 := n5_; have GE222 := n6_; have NB213_222 := n7_; have NB222_213 := n8_; clear n0_ n1_ n2_ n3_ n4_ n5_ n6_ n7_ n8_; clear hb hbox hg; have hnb21 := NB222_213.out; have hnc21 := NB213_222.out; have hcz22_0 : w20.cell? ⟨gb222, 0, none⟩ = some (.int .i64 0) := (blk_cell BK222.out 0).trans rfl; have hcz22_1 : w20.cell? ⟨gb222, 1, none⟩ = some (.int .u64 0) := (blk_cell BK222.out 1).trans rfl; have hcz22_2 : w20.cell? ⟨gb222, 2, none⟩ = some (.string (⟨#[]⟩ : ByteArray)) := (blk_cell BK222.out 2).trans rfl; have hcz22_3 : w20.cell? ⟨gb222, 3, none⟩ = some (.slice none 0 0) := (blk_cell BK222.out 3).trans rfl; have hfz22_0 := blk_frozen BK222.out 0; have hfz22_1 := blk_frozen BK222.out 1; have hfz22_2 := blk_frozen BK222.out 2; have hfz22_3 := blk_frozen BK222.out 3; obtain ⟨Ao23, co23, eo23⟩ := Kd.N_slice HO219.out; subst eo23) | ((with_reducible refine gate_callee (f := 35) rfl ?_); refine goesL_ (some 18) rfl rfl Tryd.func35 (by kernel_rfl) rfl #[.int .i64 3, .int .u64 1] rfl (by (try simp only [List.map_toArray, List.map_cons, List.map_nil]); first | done | rfl | (simp only [List.length_drop, List.length_take]; rfl)) ?_; (with_reducible refine (polyglotkit_N.calls 3 1 t223 t224 t225 t226 _ A3.out).mono ?_); rintro e w24 ⟨v227, rfl, ho0, hb⟩; refine ⟨_, rfl, ?_⟩; have n0_ := Aside0.mk (Kd.N_elder' (by (with_reducible repeat (first | apply Kd.N_alloc | apply Kd.N_drewN | apply Kd.N_drew)); exact (Kd.N_mono (Kd.N_far (p := ⟨gb222, 3, none⟩) (Kd.N_far (p := ⟨gb222, 2, none⟩) (Kd.N_far (p := ⟨gb222, 1, none⟩) (Kd.N_far (p := ⟨gb222, 0, none⟩) (Kd.N_mono HO210.out (fun k_ hk => (⟨hk, hk.2⟩ : _ ∧ k_ ≠ gb222))) (fun _ hk => hk.2) (.int .i64 t214)) (fun _ hk => hk.2) (.int .u64 t215)) (fun _ hk => hk.2) (.string t216)) (fun _ hk => hk.2) (.slice Ao23 t217.length co23)) (fun _ h_ => h_.1))) (Kd.R_base ho0) hb); have n1_ := Aside0.mk (Kd.N_elder' (by (with_reducible repeat (first | apply Kd.N_alloc | apply Kd.N_drewN | apply Kd.N_drew)); exact (Kd.N_mono (Kd.N_far (p := ⟨gb222, 3, none⟩) (Kd.N_far (p := ⟨gb222, 2, none⟩) (Kd.N_far (p := ⟨gb222, 1, none⟩) (Kd.N_far (p := ⟨gb222, 0, none⟩) (Kd.N_mono HO219.out (fun k_ hk => (⟨hk, hk.2⟩ : _ ∧ k_ ≠ gb222))) (fun _ hk => hk.2) (.int .i64 t214)) (fun _ hk => hk.2) (.int .u64 t215)) (fun _ hk => hk.2) (.string t216)) (fun _ hk => hk.2) (.slice Ao23 t217.length co23)) (fun _ h_ => h_.1))) (Kd.R_base ho0) hb); have n2_ := Aside0.mk (Kd.N_lower (Kd.N_mono (ok' := fun k_ => some k_ ≠ (.slice Ao18 t208.length co18 : Value).ownBlock ∧ some k_ ≠ (.slice Ao23 t217.length co23 : Value).ownBlock ∧ k_ ≠ gb213 ∧ k_ ≠ gb222) (Kd.R_N (Kd.R_bound ho0)) (fun k_ hk_ => ⟨(Kd.fresh' (Kd.N_lt (by (with_reducible repeat (first | apply Kd.N_alloc | apply Kd.N_drewN | apply Kd.N_drew)); exact (Kd.N_mono (Kd.N_far (p := ⟨gb222, 3, none⟩) (Kd.N_far (p := ⟨gb222, 2, none⟩) (Kd.N_far (p := ⟨gb222, 1, none⟩) (Kd.N_far (p := ⟨gb222, 0, none⟩) (Kd.N_mono HO210.out (fun k_ hk => (⟨hk, hk.2⟩ : _ ∧ k_ ≠ gb222))) (fun _ hk => hk.2) (.int .i64 t214)) (fun _ hk => hk.2) (.int .u64 t215)) (fun _ hk => hk.2) (.string t216)) (fun _ hk => hk.2) (.slice Ao23 t217.length co23)) (fun _ h_ => h_.1)))) k_ hk_.2.1), (Kd.fresh' (Kd.N_lt (by (with_reducible repeat (first | apply Kd.N_alloc | apply Kd.N_drewN | apply Kd.N_drew)); exact (Kd.N_mono (Kd.N_far (p := ⟨gb222, 3, none⟩) (Kd.N_far (p := ⟨gb222, 2, none⟩) (Kd.N_far (p := ⟨gb222, 1, none⟩) (Kd.N_far (p := ⟨gb222, 0, none⟩) (Kd.N_mono HO219.out (fun k_ hk => (⟨hk, hk.2⟩ : _ ∧ k_ ≠ gb222))) (fun _ hk => hk.2) (.int .i64 t214)) (fun _ hk => hk.2) (.int .u64 t215)) (fun _ hk => hk.2) (.string t216)) (fun _ hk => hk.2) (.slice Ao23 t217.length co23)) (fun _ h_ => h_.1)))) k_ hk_.2.1), (Kd.freshB (g := gb213) (o := .cells #[.int .i64 t205, .int .u64 t206, .string t207, .slice Ao18 t208.length co18] 25 (0, 0)) (by (with_reducible repeat (first | refine blk_drewN ?_ _ | refine blk_drew ?_ | refine blk_alloc ?_ _)); refine blk_far ?_ NB213_222.out _; (with_reducible repeat (first | refine blk_drewN ?_ _ | refine blk_drew ?_ | refine blk_alloc ?_ _)); refine blk_far ?_ NB213_222.out _; (with_reducible repeat (first | refine blk_drewN ?_ _ | refine blk_drew ?_ | refine blk_alloc ?_ _)); refine blk_far ?_ NB213_222.out _; (with_reducible repeat (first | refine blk_drewN ?_ _ | refine blk_drew ?_ | refine blk_alloc ?_ _)); refine blk_far ?_ NB213_222.out _; (with_reducible repeat (first | refine blk_drewN ?_ _ | refine blk_drew ?_ | refine blk_alloc ?_ _)); exact BK213.out) k_ hk_.2.1), (Kd.freshB (g := gb222) (o := .cells #[.int .i64 t214, .int .u64 t215, .string t216, .slice Ao23 t217.length co23] 25 (0, 0)) (by (with_reducible repeat (first | refine blk_drewN ?_ _ | refine blk_drew ?_ | refine blk_alloc ?_ _)); refine blk_put (cs := #[.int .i64 t214, .int .u64 t215, .string t216, .slice none 0 0]) ?_ 3 _ rfl; (with_reducible repeat (first | refine blk_drewN ?_ _ | refine blk_drew ?_ | refine blk_alloc ?_ _)); refine blk_put (cs := #[.int .i64 t214, .int .u64 t215, .string (⟨#[]⟩ : ByteArray), .slice none 0 0]) ?_ 2 _ rfl; (with_reducible repeat (first | refine blk_drewN ?_ _ | refine blk_drew ?_ | refine blk_alloc ?_ _)); refine blk_put (cs := #[.int .i64 t214, .int .u64 0, .string (⟨#[]⟩ : ByteArray), .slice none 0 0]) ?_ 1 _ rfl; (with_reducible repeat (first | refine blk_drewN ?_ _ | refine blk_drew ?_ | refine blk_alloc ?_ _)); refine blk_put (cs := #[.int .i64 0, .int .u64 0, .string (⟨#[]⟩ : ByteArray), .slice none 0 0]) ?_ 0 _ rfl; (with_reducible repeat (first | refine blk_drewN ?_ _ | refine blk_drew ?_ | refine blk_alloc ?_ _)); exact BK222.out) k_ hk_.2.1)⟩)) (below_size (by repeat (first | (with_reducible first | exact HB.out | apply below_alloc | apply pw_below_drewN | apply below_drew1 | refine below_set ?_ GE213.out | refine below_set ?_ GE222.out) | exact HB.out)))); have n3_ := Aside0.mk (blk_below (g := gb213) (o := .cells #[.int .i64 t205, .int .u64 t206, .string t207, .slice Ao18 t208.length co18] 25 (0, 0)) (by (with_reducible repeat (first | refine blk_drewN ?_ _ | refine blk_drew ?_ | refine blk_alloc ?_ _)); refine blk_far ?_ NB213_222.out _; (with_reducible repeat (first | refine blk_drewN ?_ _ | refine blk_drew ?_ | refine blk_alloc ?_ _)); refine blk_far ?_ NB213_222.out _; (with_reducible repeat (first | refine blk_drewN ?_ _ | refine blk_drew ?_ | refine blk_alloc ?_ _)); refine blk_far ?_ NB213_222.out _; (with_reducible repeat (first | refine blk_drewN ?_ _ | refine blk_drew ?_ | refine blk_alloc ?_ _)); refine blk_far ?_ NB213_222.out _; (with_reducible repeat (first | refine blk_drewN ?_ _ | refine blk_drew ?_ | refine blk_alloc ?_ _)); exact BK213.out) hb); have n4_ := Aside0.mk (blk_below (g := gb222) (o := .cells #[.int .i64 t214, .int .u64 t215, .string t216, .slice Ao23 t217.length co23] 25 (0, 0)) (by (with_reducible repeat (first | refine blk_drewN ?_ _ | refine blk_drew ?_ | refine blk_alloc ?_ _)); refine blk_put (cs := #[.int .i64 t214, .int .u64 t215, .string t216, .slice none 0 0]) ?_ 3 _ rfl; (with_reducible repeat (first | refine blk_drewN ?_ _ | refine blk_drew ?_ | refine blk_alloc ?_ _)); refine blk_put (cs := #[.int .i64 t214, .int .u64 t215, .string (⟨#[]⟩ : ByteArray), .slice none 0 0]) ?_ 2 _ rfl; (with_reducible repeat (first | refine blk_drewN ?_ _ | refine blk_drew ?_ | refine blk_alloc ?_ _)); refine blk_put (cs := #[.int .i64 t214, .int .u64 0, .string (⟨#[]⟩ : ByteArray), .slice none 0 0]) ?_ 1 _ rfl; (with_reducible repeat (first | refine blk_drewN ?_ _ | refine blk_drew ?_ | refine blk_alloc ?_ _)); refine blk_put (cs := #[.int .i64 0, .int .u64 0, .string (⟨#[]⟩ : ByteArray), .slice none 0 0]) ?_ 0 _ rfl; (with_reducible repeat (first | refine blk_drewN ?_ _ | refine blk_drew ?_ | refine blk_alloc ?_ _)); exact BK222.out) hb); have n5_ := Aside0.mk (below_step (by repeat (first | (with_reducible first | exact HB.out | apply below_alloc | apply pw_below_drewN | apply below_drew1 | refine below_set ?_ GE213.out | refine below_set ?_ GE222.out) | exact HB.out)) hb); clear HO210; clear HO219; clear BK213; clear BK222; clear HB; have HO210 := n0_; have HO219 := n1_; have HO228 := n2_; have BK213 := n3_; have BK222 := n4_; have HB := n5_; clear n0_ n1_ n2_ n3_ n4_ n5_; (try clear hb); (try clear hb2); (try clear hk); (try clear hi); (try clear ho0)) | ((with_reducible refine gate_dst (N := 7) rfl ?_); (try (refine gate_guard (by rfl) ?_; dsimp only)); refine box_event ?hg (N := 7) ?hd (cs := #[.int .i64 0, .int .u64 0, .string (⟨#[]⟩ : ByteArray), .slice none 0 0]) (t := 25) ?hr ?_; (case hd => rfl); (case hg => rfl); (case hr => first | (go_simp; done) | (go_simp; rfl)); intro gb229 hg w25 hbox hb; have n0_ := Aside0.mk (Kd.N_below (Kd.N_elderB (by (with_reducible repeat (first | apply Kd.N_alloc | apply Kd.N_drewN | apply Kd.N_drew)); exact HO210.out) gb229 (Nat.le_of_eq hg.symm)) hb); have n1_ := Aside0.mk (Kd.N_below (Kd.N_elderB (by (with_reducible repeat (first | apply Kd.N_alloc | apply Kd.N_drewN | apply Kd.N_drew)); exact HO219.out) gb229 (Nat.le_of_eq hg.symm)) hb); have n2_ := Aside0.mk (Kd.N_below (Kd.N_elderB (by (with_reducible repeat (first | apply Kd.N_alloc | apply Kd.N_drewN | apply Kd.N_drew)); exact HO228.out) gb229 (Nat.le_of_eq hg.symm)) hb); have n3_ := Aside0.mk (blk_below (g := gb213) (o := .cells #[.int .i64 t205, .int .u64 t206, .string t207, .slice Ao18 t208.length co18] 25 (0, 0)) (by (with_reducible repeat (first | refine blk_drewN ?_ _ | refine blk_drew ?_ | refine blk_alloc ?_ _)); exact BK213.out) hb); have n4_ := Aside0.mk (blk_below (g := gb222) (o := .cells #[.int .i64 t214, .int .u64 t215, .string t216, .slice Ao23 t217.length co23] 25 (0, 0)) (by (with_reducible repeat (first | refine blk_drewN ?_ _ | refine blk_drew ?_ | refine blk_alloc ?_ _)); exact BK222.out) hb); have n5_ := Aside0.mk (below_step (by repeat (first | (with_reducible first | exact HB.out | apply below_alloc | apply pw_below_drewN | apply below_drew1 | refine below_set ?_ GE213.out | refine below_set ?_ GE222.out) | exact HB.out)) hb); have n6_ := Aside0.mk (hbox); have n7_ := Aside0.mk ((by rw [hg]; exact (below_size (by repeat (first | (with_reducible first | exact HB.out | apply below_alloc | apply pw_below_drewN | apply below_drew1 | refine below_set ?_ GE213.out | refine below_set ?_ GE222.out) | exact HB.out))) : w.heap.size ≤ gb229)); have n8_ := Aside0.mk ((by rw [hg]; exact (below_size (by repeat (first | (with_reducible first | exact HB.out | apply below_alloc | apply pw_below_drewN | apply below_drew1 | refine below_set ?_ GE213.out | refine below_set ?_ GE222.out) | exact HB.out))) : w.heap.size ≤ gb229)); have n9_ := Aside0.mk ((by rw [hg]; exact Nat.ne_of_lt (blk_lt (g := gb213) (o := .cells #[.int .i64 t205, .int .u64 t206, .string t207, .slice Ao18 t208.length co18] 25 (0, 0)) (by (with_reducible repeat (first | refine blk_drewN ?_ _ | refine blk_drew ?_ | refine blk_alloc ?_ _)); exact BK213.out)) : gb213 ≠ gb229)); have n10_ := Aside0.mk ((by rw [hg]; exact Nat.ne_of_gt (blk_lt (g := gb213) (o := .cells #[.int .i64 t205, .int .u64 t206, .string t207, .slice Ao18 t208.length co18] 25 (0, 0)) (by (with_reducible repeat (first | refine blk_drewN ?_ _ | refine blk_drew ?_ | refine blk_alloc ?_ _)); exact BK213.out)) : gb229 ≠ gb213)); have n11_ := Aside0.mk ((by rw [hg]; exact Nat.ne_of_lt (blk_lt (g := gb222) (o := .cells #[.int .i64 t214, .int .u64 t215, .string t216, .slice Ao23 t217.length co23] 25 (0, 0)) (by (with_reducible repeat (first | refine blk_drewN ?_ _ | refine blk_drew ?_ | refine blk_alloc ?_ _)); exact BK222.out)) : gb222 ≠ gb229)); have n12_ := Aside0.mk ((by rw [hg]; exact Nat.ne_of_gt (blk_lt (g := gb222) (o := .cells #[.int .i64 t214, .int .u64 t215, .string t216, .slice Ao23 t217.length co23] 25 (0, 0)) (by (with_reducible repeat (first | refine blk_drewN ?_ _ | refine blk_drew ?_ | refine blk_alloc ?_ _)); exact BK222.out)) : gb229 ≠ gb222)); clear HO210; clear HO219; clear HO228; clear BK213; clear BK222; clear HB; have HO210 := n0_; have HO219 := n1_; have HO228 := n2_; have BK213 := n3_; have BK222 := n4_; have HB := n5_; have BK229 := n6_; have GW229 := n7_; have GE229 := n8_; have NB213_229 := n9_; have NB229_213 := n10_; have NB222_229 := n11_; have NB229_222 := n12_; clear n0_ n1_ n2_ n3_ n4_ n5_ n6_ n7_ n8_ n9_ n10_ n11_ n12_; clear hb hbox hg; have hnb26 := NB229_213.out; have hnc26 := NB213_229.out; have hnb27 := NB229_222.out; have hnc27 := NB222_229.out; have hcz28_0 : w25.cell? ⟨gb229, 0, none⟩ = some (.int .i64 0) := (blk_cell BK229.out 0).trans rfl; have hcz28_1 : w25.cell? ⟨gb229, 1, none⟩ = some (.int .u64 0) := (blk_cell BK229.out 1).trans rfl; have hcz28_2 : w25.cell? ⟨gb229, 2, none⟩ = some (.string (⟨#[]⟩ : ByteArray)) := (blk_cell BK229.out 2).trans rfl; have hcz28_3 : w25.cell? ⟨gb229, 3, none⟩ = some (.slice none 0 0) := (blk_cell BK229.out 3).trans rfl; have hfz28_0 := blk_frozen BK229.out 0; have hfz28_1 := blk_frozen BK229.out 1; have hfz28_2 := blk_frozen BK229.out 2; have hfz28_3 := blk_frozen BK229.out 3; obtain ⟨Ao29, co29, eo29⟩ := Kd.N_slice HO228.out; subst eo29))
       have n0_ : Aside0 (Kd.N kV 25 ((((w25.setCell ⟨gb229, 0, none⟩ (.int .i64 t223)).setCell ⟨gb229, 1, none⟩ (.int .u64 t224)).setCell ⟨gb229, 2, none⟩ (.string t225)).setCell ⟨gb229, 3, none⟩ (.slice Ao29 t226.length co29)) w.heap.size (fun k_ => some k_ ≠ (.slice Ao23 t217.length co23 : Value).ownBlock ∧ some k_ ≠ (.slice Ao29 t226.length co29 : Value).ownBlock ∧ k_ ≠ gb213 ∧ k_ ≠ gb222 ∧ k_ ≠ gb229) (.slice Ao18 t208.length co18) t208) := ⟨by (with_reducible repeat (first | apply Kd.N_alloc | apply Kd.N_drewN | apply Kd.N_drew)); exact Kd.N_mono (Kd.N_far (p := ⟨gb229, 3, none⟩) (Kd.N_far (p := ⟨gb229, 2, none⟩) (Kd.N_far (p := ⟨gb229, 1, none⟩) (Kd.N_far (p := ⟨gb229, 0, none⟩) (Kd.N_mono HO210.out (fun k_ hk => (⟨hk, hk.2⟩ : _ ∧ k_ ≠ gb229))) (fun _ hk => hk.2) (.int .i64 t223)) (fun _ hk => hk.2) (.int .u64 t224)) (fun _ hk => hk.2) (.string t225)) (fun _ hk => hk.2) (.slice Ao29 t226.length co29)) (fun _ hk => ⟨hk.1.1.1.1.2, ⟨hk.1.1.2, ⟨hk.1.1.1.1.1.2, ⟨hk.1.1.1.2, hk.1.2⟩⟩⟩⟩)⟩
       have n1_ : Aside0 (Kd.N kV 25 ((((w25.setCell ⟨gb229, 0, none⟩ (.int .i64 t223)).setCell ⟨gb229, 1, none⟩ (.int .u64 t224)).setCell ⟨gb229, 2, none⟩ (.string t225)).setCell ⟨gb229, 3, none⟩ (.slice Ao29 t226.length co29)) w.heap.size (fun k_ => some k_ ≠ (.slice Ao18 t208.length co18 : Value).ownBlock ∧ some k_ ≠ (.slice Ao29 t226.length co29 : Value).ownBlock ∧ k_ ≠ gb213 ∧ k_ ≠ gb222 ∧ k_ ≠ gb229) (.slice Ao23 t217.length co23) t217) := ⟨by (with_reducible repeat (first | apply Kd.N_alloc | apply Kd.N_drewN | apply Kd.N_drew)); exact Kd.N_mono (Kd.N_far (p := ⟨gb229, 3, none⟩) (Kd.N_far (p := ⟨gb229, 2, none⟩) (Kd.N_far (p := ⟨gb229, 1, none⟩) (Kd.N_far (p := ⟨gb229, 0, none⟩) (Kd.N_mono HO219.out (fun k_ hk => (⟨hk, hk.2⟩ : _ ∧ k_ ≠ gb229))) (fun _ hk => hk.2) (.int .i64 t223)) (fun _ hk => hk.2) (.int .u64 t224)) (fun _ hk => hk.2) (.string t225)) (fun _ hk => hk.2) (.slice Ao29 t226.length co29)) (fun _ hk => ⟨hk.1.1.1.1.1, ⟨hk.1.1.2, ⟨hk.1.1.1.1.2, ⟨hk.1.1.1.2, hk.1.2⟩⟩⟩⟩)⟩
       have n2_ : Aside0 (Kd.N kV 25 ((((w25.setCell ⟨gb229, 0, none⟩ (.int .i64 t223)).setCell ⟨gb229, 1, none⟩ (.int .u64 t224)).setCell ⟨gb229, 2, none⟩ (.string t225)).setCell ⟨gb229, 3, none⟩ (.slice Ao29 t226.length co29)) w.heap.size (fun k_ => some k_ ≠ (.slice Ao18 t208.length co18 : Value).ownBlock ∧ some k_ ≠ (.slice Ao23 t217.length co23 : Value).ownBlock ∧ k_ ≠ gb213 ∧ k_ ≠ gb222 ∧ k_ ≠ gb229) (.slice Ao29 t226.length co29) t226) := ⟨by (with_reducible repeat (first | apply Kd.N_alloc | apply Kd.N_drewN | apply Kd.N_drew)); exact Kd.N_mono (Kd.N_far (p := ⟨gb229, 3, none⟩) (Kd.N_far (p := ⟨gb229, 2, none⟩) (Kd.N_far (p := ⟨gb229, 1, none⟩) (Kd.N_far (p := ⟨gb229, 0, none⟩) (Kd.N_mono HO228.out (fun k_ hk => (⟨hk, hk.2⟩ : _ ∧ k_ ≠ gb229))) (fun _ hk => hk.2) (.int .i64 t223)) (fun _ hk => hk.2) (.int .u64 t224)) (fun _ hk => hk.2) (.string t225)) (fun _ hk => hk.2) (.slice Ao29 t226.length co29)) (fun _ hk => ⟨hk.1.1.1, ⟨hk.1.1.2.1, ⟨hk.1.1.2.2.1, ⟨hk.1.1.2.2.2, hk.1.2⟩⟩⟩⟩)⟩
       have n3_ : Aside0 (((((w25.setCell ⟨gb229, 0, none⟩ (.int .i64 t223)).setCell ⟨gb229, 1, none⟩ (.int .u64 t224)).setCell ⟨gb229, 2, none⟩ (.string t225)).setCell ⟨gb229, 3, none⟩ (.slice Ao29 t226.length co29)).heap[gb213]? = some (.cells #[.int .i64 t205, .int .u64 t206, .string t207, .slice Ao18 t208.length co18] 25 (0, 0))) := ⟨by (with_reducible repeat (first | refine blk_drewN ?_ _ | refine blk_drew ?_ | refine blk_alloc ?_ _)); refine blk_far ?_ NB213_229.out _; (with_reducible repeat (first | refine blk_drewN ?_ _ | refine blk_drew ?_ | refine blk_alloc ?_ _)); refine blk_far ?_ NB213_229.out _; (with_reducible repeat (first | refine blk_drewN ?_ _ | refine blk_drew ?_ | refine blk_alloc ?_ _)); refine blk_far ?_ NB213_229.out _; (with_reducible repeat (first | refine blk_drewN ?_ _ | refine blk_drew ?_ | refine blk_alloc ?_ _)); refine blk_far ?_ NB213_229.out _; (with_reducible repeat (first | refine blk_drewN ?_ _ | refine blk_drew ?_ | refine blk_alloc ?_ _)); exact BK213.out⟩
       have n4_ : Aside0 (((((w25.setCell ⟨gb229, 0, none⟩ (.int .i64 t223)).setCell ⟨gb229, 1, none⟩ (.int .u64 t224)).setCell ⟨gb229, 2, none⟩ (.string t225)).setCell ⟨gb229, 3, none⟩ (.slice Ao29 t226.length co29)).heap[gb222]? = some (.cells #[.int .i64 t214, .int .u64 t215, .string t216, .slice Ao23 t217.length co23] 25 (0, 0))) := ⟨by (with_reducible repeat (first | refine blk_drewN ?_ _ | refine blk_drew ?_ | refine blk_alloc ?_ _)); refine blk_far ?_ NB222_229.out _; (with_reducible repeat (first | refine blk_drewN ?_ _ | refine blk_drew ?_ | refine blk_alloc ?_ _)); refine blk_far ?_ NB222_229.out _; (with_reducible repeat (first | refine blk_drewN ?_ _ | refine blk_drew ?_ | refine blk_alloc ?_ _)); refine blk_far ?_ NB222_229.out _; (with_reducible repeat (first | refine blk_drewN ?_ _ | refine blk_drew ?_ | refine blk_alloc ?_ _)); refine blk_far ?_ NB222_229.out _; (with_reducible repeat (first | refine blk_drewN ?_ _ | refine blk_drew ?_ | refine blk_alloc ?_ _)); exact BK222.out⟩
       have n5_ : Aside0 (((((w25.setCell ⟨gb229, 0, none⟩ (.int .i64 t223)).setCell ⟨gb229, 1, none⟩ (.int .u64 t224)).setCell ⟨gb229, 2, none⟩ (.string t225)).setCell ⟨gb229, 3, none⟩ (.slice Ao29 t226.length co29)).heap[gb229]? = some (.cells #[.int .i64 t223, .int .u64 t224, .string t225, .slice Ao29 t226.length co29] 25 (0, 0))) := ⟨by (with_reducible repeat (first | refine blk_drewN ?_ _ | refine blk_drew ?_ | refine blk_alloc ?_ _)); refine blk_put (cs := #[.int .i64 t223, .int .u64 t224, .string t225, .slice none 0 0]) ?_ 3 _ rfl; (with_reducible repeat (first | refine blk_drewN ?_ _ | refine blk_drew ?_ | refine blk_alloc ?_ _)); refine blk_put (cs := #[.int .i64 t223, .int .u64 t224, .string (⟨#[]⟩ : ByteArray), .slice none 0 0]) ?_ 2 _ rfl; (with_reducible repeat (first | refine blk_drewN ?_ _ | refine blk_drew ?_ | refine blk_alloc ?_ _)); refine blk_put (cs := #[.int .i64 t223, .int .u64 0, .string (⟨#[]⟩ : ByteArray), .slice none 0 0]) ?_ 1 _ rfl; (with_reducible repeat (first | refine blk_drewN ?_ _ | refine blk_drew ?_ | refine blk_alloc ?_ _)); refine blk_put (cs := #[.int .i64 0, .int .u64 0, .string (⟨#[]⟩ : ByteArray), .slice none 0 0]) ?_ 0 _ rfl; (with_reducible repeat (first | refine blk_drewN ?_ _ | refine blk_drew ?_ | refine blk_alloc ?_ _)); exact BK229.out⟩
       have n6_ : Aside0 (Below w.heap.size w ((((w25.setCell ⟨gb229, 0, none⟩ (.int .i64 t223)).setCell ⟨gb229, 1, none⟩ (.int .u64 t224)).setCell ⟨gb229, 2, none⟩ (.string t225)).setCell ⟨gb229, 3, none⟩ (.slice Ao29 t226.length co29))) := ⟨by repeat (first | (with_reducible first | exact HB.out | apply below_alloc | apply pw_below_drewN | apply below_drew1 | refine below_set ?_ GE213.out | refine below_set ?_ GE222.out | refine below_set ?_ GE229.out) | exact HB.out)⟩
       (try clear HO210)
       (try clear HO219)
       (try clear HO228)
       (try clear BK213)
       (try clear BK222)
       (try clear BK229)
       (try clear HB)
       generalize ((((w25.setCell ⟨gb229, 0, none⟩ (.int .i64 t223)).setCell ⟨gb229, 1, none⟩ (.int .u64 t224)).setCell ⟨gb229, 2, none⟩ (.string t225)).setCell ⟨gb229, 3, none⟩ (.slice Ao29 t226.length co29)) = w30 at n0_ n1_ n2_ n3_ n4_ n5_ n6_ ⊢
       have HO210 := n0_
       have HO219 := n1_
       have HO228 := n2_
       have BK213 := n3_
       have BK222 := n4_
       have BK229 := n5_
       have HB := n6_
       clear n0_ n1_ n2_ n3_ n4_ n5_ n6_
       have n0_ := Aside0.mk (Kd.N_drew HO210.out)
       have n1_ := Aside0.mk (Kd.N_drew HO219.out)
       have n2_ := Aside0.mk (Kd.N_drew HO228.out)
       have n3_ := Aside0.mk (blk_drew BK213.out)
       have n4_ := Aside0.mk (blk_drew BK222.out)
       have n5_ := Aside0.mk (blk_drew BK229.out)
       have n6_ := Aside0.mk (below_drew1 HB.out)
       clear HO210
       clear HO219
       clear HO228
       clear BK213
       clear BK222
       clear BK229
       clear HB
       have HO210 := n0_
       have HO219 := n1_
       have HO228 := n2_
       have BK213 := n3_
       have BK222 := n4_
       have BK229 := n5_
       have HB := n6_
       clear n0_ n1_ n2_ n3_ n4_ n5_ n6_
       refine start_ (n := 31) (S := fun w' => w'.cell? ⟨gb213, 0, none⟩ = some (.int .i64 t205) ∧ w'.cell? ⟨gb213, 1, none⟩ = some (.int .u64 t206) ∧ w'.cell? ⟨gb213, 2, none⟩ = some (.string t207) ∧ w'.cell? ⟨gb213, 3, none⟩ = some (.slice Ao18 t208.length co18) ∧ w'.cell? ⟨gb222, 0, none⟩ = some (.int .i64 t214) ∧ w'.cell? ⟨gb222, 1, none⟩ = some (.int .u64 t215) ∧ w'.cell? ⟨gb222, 2, none⟩ = some (.string t216) ∧ w'.cell? ⟨gb222, 3, none⟩ = some (.slice Ao23 t217.length co23) ∧ w'.cell? ⟨gb229, 0, none⟩ = some (.int .i64 t223) ∧ w'.cell? ⟨gb229, 1, none⟩ = some (.int .u64 t224) ∧ w'.cell? ⟨gb229, 2, none⟩ = some (.string t225) ∧ w'.cell? ⟨gb229, 3, none⟩ = some (.slice Ao29 t226.length co29)) (ds := []) #[false, false, false, false, false, false, false, false, false, false, false, false, false, false, false, false, false, false, false, false, false, false, false, false, false, false, false, false, false, false, false] (by kernel_rfl) rfl rfl ⟨(blk_cell BK213.out 0).trans rfl, (blk_cell BK213.out 1).trans rfl, (blk_cell BK213.out 2).trans rfl, (blk_cell BK213.out 3).trans rfl, (blk_cell BK222.out 0).trans rfl, (blk_cell BK222.out 1).trans rfl, (blk_cell BK222.out 2).trans rfl, (blk_cell BK222.out 3).trans rfl, (blk_cell BK229.out 0).trans rfl, (blk_cell BK229.out 1).trans rfl, (blk_cell BK229.out 2).trans rfl, (blk_cell BK229.out 3).trans rfl⟩ (fun hHeld => ?_); refine with_tabW polyglotlaw17_lives.tab4 polyglotlaw17_lives.bits4 (fun HT_ HW_ => ?_)
       generalize w30.drew = w31 at HO210 HO219 HO228 BK213 BK222 BK229 HB hHeld ⊢
       refine pure_ (i := 0) (N := some 19) (v := ?_) (a' := ?_) #[true, false, false, false, false, false, false, false, false, false, false, false, false, false, false, false, false, false, false, false, false, false, false, false, false, false, false, false, false, false, false] rfl rfl (any_of HT_.out (by kernel_rfl)) (fun _ _ _ h => h) (Or.inl ⟨by rfl, ?_⟩) ?_ ?_
       rotate_left
       ·intro w'
        go_simp
        with_reducible rfl
       rotate_left
       ·simp only [Act.put, List.setIfInBounds_toArray, List.set_cons_zero, List.set_cons_succ, i64_w, i32_w]
        rfl
       refine pure_ (i := 1) (N := some 20) (v := ?_) (a' := ?_) #[true, true, false, false, false, false, false, false, false, false, false, false, false, false, false, false, false, false, false, false, false, false, false, false, false, false, false, false, false, false, false] rfl rfl (any_of HT_.out (by kernel_rfl)) (fun _ _ _ h => h) (Or.inl ⟨by rfl, ?_⟩) ?_ ?_
       rotate_left
       ·intro w'
        go_simp
        with_reducible rfl
       rotate_left
       ·simp only [Act.put, List.setIfInBounds_toArray, List.set_cons_zero, List.set_cons_succ, i64_w, i32_w]
        rfl
       refine pure_ (i := 2) (N := some 21) (v := ?_) (a' := ?_) #[true, true, true, false, false, false, false, false, false, false, false, false, false, false, false, false, false, false, false, false, false, false, false, false, false, false, false, false, false, false, false] rfl rfl (any_of HT_.out (by kernel_rfl)) (fun _ _ _ h => h) (Or.inl ⟨by rfl, ?_⟩) ?_ ?_
       rotate_left
       ·intro w'
        go_simp
        with_reducible rfl
       rotate_left
       ·simp only [Act.put, List.setIfInBounds_toArray, List.set_cons_zero, List.set_cons_succ, i64_w, i32_w]
        rfl
       refine pure_ (i := 3) (N := some 22) (v := ?_) (a' := ?_) #[true, true, true, true, false, false, false, false, false, false, false, false, false, false, false, false, false, false, false, false, false, false, false, false, false, false, false, false, false, false, false] rfl rfl (any_of HT_.out (by kernel_rfl)) (fun _ _ _ h => h) (Or.inl ⟨by rfl, ?_⟩) ?_ ?_
       rotate_left
       ·intro w'
        go_simp
        with_reducible rfl
       rotate_left
       ·simp only [Act.put, List.setIfInBounds_toArray, List.set_cons_zero, List.set_cons_succ, i64_w, i32_w]
        rfl
       refine pure_ (i := 4) (N := some 23) (v := ?_) (a' := ?_) #[true, true, true, true, true, false, false, false, false, false, false, false, false, false, false, false, false, false, false, false, false, false, false, false, false, false, false, false, false, false, false] rfl rfl (any_of HT_.out (by kernel_rfl)) (fun _ _ _ h => h) (Or.inl ⟨by rfl, ?_⟩) ?_ ?_
       rotate_left
       ·intro w'
        go_simp
        with_reducible rfl
       rotate_left
       ·simp only [Act.put, List.setIfInBounds_toArray, List.set_cons_zero, List.set_cons_succ, i64_w, i32_w]
        rfl
       refine pure_ (i := 5) (N := some 24) (v := ?_) (a' := ?_) #[true, true, true, true, true, true, false, false, false, false, false, false, false, false, false, false, false, false, false, false, false, false, false, false, false, false, false, false, false, false, false] rfl rfl (any_of HT_.out (by kernel_rfl)) (fun _ _ _ h => h) (Or.inl ⟨by rfl, ?_⟩) ?_ ?_
       rotate_left
       ·intro w'
        go_simp
        with_reducible rfl
       rotate_left
       ·simp only [Act.put, List.setIfInBounds_toArray, List.set_cons_zero, List.set_cons_succ, i64_w, i32_w]
        rfl
       refine pure_ (i := 6) (N := some 25) (v := ?_) (a' := ?_) #[true, true, true, true, true, true, true, false, false, false, false, false, false, false, false, false, false, false, false, false, false, false, false, false, false, false, false, false, false, false, false] rfl rfl (any_of HT_.out (by kernel_rfl)) (fun _ _ _ h => h) (Or.inl ⟨by rfl, ?_⟩) ?_ ?_
       rotate_left
       ·intro w'
        go_simp
        with_reducible rfl
       rotate_left
       ·simp only [Act.put, List.setIfInBounds_toArray, List.set_cons_zero, List.set_cons_succ, i64_w, i32_w]
        rfl
       refine pure_ (i := 7) (N := some 26) (v := ?_) (a' := ?_) #[true, true, true, true, true, true, true, true, false, false, false, false, false, false, false, false, false, false, false, false, false, false, false, false, false, false, false, false, false, false, false] rfl rfl (any_of HT_.out (by kernel_rfl)) (fun _ _ _ h => h) (Or.inl ⟨by rfl, ?_⟩) ?_ ?_
       rotate_left
       ·intro w'
        go_simp
        with_reducible rfl
       rotate_left
       ·simp only [Act.put, List.setIfInBounds_toArray, List.set_cons_zero, List.set_cons_succ, i64_w, i32_w]
        rfl
       refine pure_ (i := 8) (N := some 27) (v := ?_) (a' := ?_) #[true, true, true, true, true, true, true, true, true, false, false, false, false, false, false, false, false, false, false, false, false, false, false, false, false, false, false, false, false, false, false] rfl rfl (any_of HT_.out (by kernel_rfl)) (fun _ _ _ h => h) (Or.inl ⟨by rfl, ?_⟩) ?_ ?_
       rotate_left
       ·intro w'
        go_simp
        with_reducible rfl
       rotate_left
       ·simp only [Act.put, List.setIfInBounds_toArray, List.set_cons_zero, List.set_cons_succ, i64_w, i32_w]
        rfl
       refine pure_ (i := 9) (N := some 28) (v := ?_) (a' := ?_) #[true, true, true, true, true, true, true, true, true, true, false, false, false, false, false, false, false, false, false, false, false, false, false, false, false, false, false, false, false, false, false] rfl rfl (any_of HT_.out (by kernel_rfl)) (fun _ _ _ h => h) (Or.inl ⟨by rfl, ?_⟩) ?_ ?_
       rotate_left
       ·intro w'
        go_simp
        with_reducible rfl
       rotate_left
       ·simp only [Act.put, List.setIfInBounds_toArray, List.set_cons_zero, List.set_cons_succ, i64_w, i32_w]
        rfl
       refine pure_ (i := 10) (N := some 29) (v := ?_) (a' := ?_) #[true, true, true, true, true, true, true, true, true, true, true, false, false, false, false, false, false, false, false, false, false, false, false, false, false, false, false, false, false, false, false] rfl rfl (any_of HT_.out (by kernel_rfl)) (fun _ _ _ h => h) (Or.inl ⟨by rfl, ?_⟩) ?_ ?_
       rotate_left
       ·intro w'
        go_simp
        with_reducible rfl
       rotate_left
       ·simp only [Act.put, List.setIfInBounds_toArray, List.set_cons_zero, List.set_cons_succ, i64_w, i32_w]
        rfl
       refine pure_ (i := 11) (N := some 30) (v := ?_) (a' := ?_) #[true, true, true, true, true, true, true, true, true, true, true, true, false, false, false, false, false, false, false, false, false, false, false, false, false, false, false, false, false, false, false] rfl rfl (any_of HT_.out (by kernel_rfl)) (fun _ _ _ h => h) (Or.inl ⟨by rfl, ?_⟩) ?_ ?_
       rotate_left
       ·intro w'
        go_simp
        with_reducible rfl
       rotate_left
       ·simp only [Act.put, List.setIfInBounds_toArray, List.set_cons_zero, List.set_cons_succ, i64_w, i32_w]
        rfl
       refine pure_ (i := 12) (N := some 31) (v := ?_) (a' := ?_) #[true, true, true, true, true, true, true, true, true, true, true, true, true, false, false, false, false, false, false, false, false, false, false, false, false, false, false, false, false, false, false] rfl rfl (any_of HT_.out (by kernel_rfl)) (fun _ _ _ h => h) (Or.inl ⟨by rfl, ?_⟩) ?_ ?_
       rotate_left
       ·intro w'
        go_simp
        with_reducible rfl
       rotate_left
       ·simp only [Act.put, List.setIfInBounds_toArray, List.set_cons_zero, List.set_cons_succ, i64_w, i32_w]
        rfl
       refine pure_ (i := 13) (N := some 32) (v := ?_) (a' := ?_) #[true, true, true, true, true, true, true, true, true, true, true, true, true, true, false, false, false, false, false, false, false, false, false, false, false, false, false, false, false, false, false] rfl rfl (any_of HT_.out (by kernel_rfl)) (fun _ _ _ h => h) (Or.inl ⟨by rfl, ?_⟩) ?_ ?_
       rotate_left
       ·intro w'
        go_simp
        with_reducible rfl
       rotate_left
       ·simp only [Act.put, List.setIfInBounds_toArray, List.set_cons_zero, List.set_cons_succ, i64_w, i32_w]
        rfl
       refine pure_ (i := 14) (N := some 33) (v := ?_) (a' := ?_) #[true, true, true, true, true, true, true, true, true, true, true, true, true, true, true, false, false, false, false, false, false, false, false, false, false, false, false, false, false, false, false] rfl rfl (any_of HT_.out (by kernel_rfl)) (fun _ _ _ h => h) (Or.inl ⟨by rfl, ?_⟩) ?_ ?_
       rotate_left
       ·intro w'
        go_simp
        with_reducible rfl
       rotate_left
       ·simp only [Act.put, List.setIfInBounds_toArray, List.set_cons_zero, List.set_cons_succ, i64_w, i32_w]
        rfl
       refine take_ (i := 15) (N := some 34) (v := ?_) (a' := ?_) #[true, true, true, true, true, true, true, true, true, true, true, true, true, true, true, true, false, false, false, false, false, false, false, false, false, false, false, false, false, false, false] rfl rfl (take_ofW HT_.out HW_.out (by kernel_rfl)) (fun _ _ _ h => h) (Or.inl ⟨by rfl, ?_⟩) hHeld ?_ ?_
       rotate_left
       ·rintro w' ⟨s0, s1, s2, s3, s4, s5, s6, s7, s8, s9, s10, s11⟩
        go_simp
        with_reducible rfl
       rotate_left
       ·simp only [Act.put, List.setIfInBounds_toArray, List.set_cons_zero, List.set_cons_succ, i64_w, i32_w]
        rfl
       refine one_ (i := 16) (N := some 35) #[true, true, true, true, true, true, true, true, true, true, true, true, true, true, true, true, true, false, false, false, false, false, false, false, false, false, false, false, false, false, false] rfl rfl (one_of HT_.out (by kernel_rfl)) (by decide) (fun K hK => ?_)
       refine goes_ Tryd.func35 (by kernel_rfl) rfl #[.int .i64 2, .int .u64 1] (by rfl) rfl rfl (by (try simp only [List.map_toArray, List.map_cons, List.map_nil]); first | done | rfl | (simp only [List.length_drop, List.length_take]; rfl)) ?_
       with_reducible refine (polyglotkit_N.calls 2 1 t230 t231 t232 t233 _ A8.out).mono ?_
       rintro e w32 ⟨v234, rfl, ho0, hb⟩
       refine ⟨_, rfl, ?_⟩
       have n0_ := Aside0.mk (Kd.N_elder' (by (with_reducible repeat (first | apply Kd.N_alloc | apply Kd.N_drewN | apply Kd.N_drew)); exact HO210.out) (Kd.R_base ho0) hb)
       have n1_ := Aside0.mk (Kd.N_elder' (by (with_reducible repeat (first | apply Kd.N_alloc | apply Kd.N_drewN | apply Kd.N_drew)); exact HO219.out) (Kd.R_base ho0) hb)
       have n2_ := Aside0.mk (Kd.N_elder' (by (with_reducible repeat (first | apply Kd.N_alloc | apply Kd.N_drewN | apply Kd.N_drew)); exact HO228.out) (Kd.R_base ho0) hb)
       have n3_ := Aside0.mk (Kd.N_lower (Kd.N_mono (ok' := fun k_ => some k_ ≠ (.slice Ao18 t208.length co18 : Value).ownBlock ∧ some k_ ≠ (.slice Ao23 t217.length co23 : Value).ownBlock ∧ some k_ ≠ (.slice Ao29 t226.length co29 : Value).ownBlock ∧ k_ ≠ gb213 ∧ k_ ≠ gb222 ∧ k_ ≠ gb229) (Kd.R_N (Kd.R_bound ho0)) (fun k_ hk_ => ⟨(Kd.fresh' (Kd.N_lt (by (with_reducible repeat (first | apply Kd.N_alloc | apply Kd.N_drewN | apply Kd.N_drew)); exact HO210.out)) k_ hk_.2.1), (Kd.fresh' (Kd.N_lt (by (with_reducible repeat (first | apply Kd.N_alloc | apply Kd.N_drewN | apply Kd.N_drew)); exact HO219.out)) k_ hk_.2.1), (Kd.fresh' (Kd.N_lt (by (with_reducible repeat (first | apply Kd.N_alloc | apply Kd.N_drewN | apply Kd.N_drew)); exact HO228.out)) k_ hk_.2.1), (Kd.freshB (g := gb213) (o := .cells #[.int .i64 t205, .int .u64 t206, .string t207, .slice Ao18 t208.length co18] 25 (0, 0)) (by (with_reducible repeat (first | refine blk_drewN ?_ _ | refine blk_drew ?_ | refine blk_alloc ?_ _)); exact BK213.out) k_ hk_.2.1), (Kd.freshB (g := gb222) (o := .cells #[.int .i64 t214, .int .u64 t215, .string t216, .slice Ao23 t217.length co23] 25 (0, 0)) (by (with_reducible repeat (first | refine blk_drewN ?_ _ | refine blk_drew ?_ | refine blk_alloc ?_ _)); exact BK222.out) k_ hk_.2.1), (Kd.freshB (g := gb229) (o := .cells #[.int .i64 t223, .int .u64 t224, .string t225, .slice Ao29 t226.length co29] 25 (0, 0)) (by (with_reducible repeat (first | refine blk_drewN ?_ _ | refine blk_drew ?_ | refine blk_alloc ?_ _)); exact BK229.out) k_ hk_.2.1)⟩)) (below_size (by repeat (first | (with_reducible first | exact HB.out | apply below_alloc | apply pw_below_drewN | apply below_drew1 | refine below_set ?_ GE213.out | refine below_set ?_ GE222.out | refine below_set ?_ GE229.out) | exact HB.out))))
       have n4_ := Aside0.mk (blk_below (g := gb213) (o := .cells #[.int .i64 t205, .int .u64 t206, .string t207, .slice Ao18 t208.length co18] 25 (0, 0)) (by (with_reducible repeat (first | refine blk_drewN ?_ _ | refine blk_drew ?_ | refine blk_alloc ?_ _)); exact BK213.out) hb)
       have n5_ := Aside0.mk (blk_below (g := gb222) (o := .cells #[.int .i64 t214, .int .u64 t215, .string t216, .slice Ao23 t217.length co23] 25 (0, 0)) (by (with_reducible repeat (first | refine blk_drewN ?_ _ | refine blk_drew ?_ | refine blk_alloc ?_ _)); exact BK222.out) hb)
       have n6_ := Aside0.mk (blk_below (g := gb229) (o := .cells #[.int .i64 t223, .int .u64 t224, .string t225, .slice Ao29 t226.length co29] 25 (0, 0)) (by (with_reducible repeat (first | refine blk_drewN ?_ _ | refine blk_drew ?_ | refine blk_alloc ?_ _)); exact BK229.out) hb)
       have n7_ := Aside0.mk (below_step (by repeat (first | (with_reducible first | exact HB.out | apply below_alloc | apply pw_below_drewN | apply below_drew1 | refine below_set ?_ GE213.out | refine below_set ?_ GE222.out | refine below_set ?_ GE229.out) | exact HB.out)) hb)
       clear HO210
       clear HO219
       clear HO228
       clear BK213
       clear BK222
       clear BK229
       clear HB
       have HO210 := n0_
       have HO219 := n1_
       have HO228 := n2_
       have HO235 := n3_
       have BK213 := n4_
       have BK222 := n5_
       have BK229 := n6_
       have HB := n7_
       clear n0_ n1_ n2_ n3_ n4_ n5_ n6_ n7_
       (try clear hb)
       (try clear hb2)
       (try clear hk)
       (try clear hi)
       (try clear ho0)
       refine hK.out _ _ ⟨(blk_cell BK213.out 0).trans rfl, (blk_cell BK213.out 1).trans rfl, (blk_cell BK213.out 2).trans rfl, (blk_cell BK213.out 3).trans rfl, (blk_cell BK222.out 0).trans rfl, (blk_cell BK222.out 1).trans rfl, (blk_cell BK222.out 2).trans rfl, (blk_cell BK222.out 3).trans rfl, (blk_cell BK229.out 0).trans rfl, (blk_cell BK229.out 1).trans rfl, (blk_cell BK229.out 2).trans rfl, (blk_cell BK229.out 3).trans rfl⟩ (fun hHeld => ?_)
       clear hK K
       refine norm_ (a' := ?_) ?_ ?_
       rotate_left
       ·show Act.put _ (some 35) _ = _
        simp only [Act.put, List.setIfInBounds_toArray, List.set_cons_zero, List.set_cons_succ, i64_w, i32_w]
        rfl
       refine one_ (i := 17) (N := some 36) #[true, true, true, true, true, true, true, true, true, true, true, true, true, true, true, true, true, true, false, false, false, false, false, false, false, false, false, false, false, false, false] rfl rfl (one_of HT_.out (by kernel_rfl)) (by decide) (fun K hK => ?_)
       refine goes_ Tryd.func35 (by kernel_rfl) rfl #[.int .i64 1, .int .u64 0] (by rfl) rfl rfl (by (try simp only [List.map_toArray, List.map_cons, List.map_nil]); first | done | rfl | (simp only [List.length_drop, List.length_take]; rfl)) ?_
       with_reducible refine (polyglotkit_N.calls 1 0 t236 t237 t238 t239 _ A9.out).mono ?_
       rintro e w33 ⟨v240, rfl, ho0, hb⟩
       refine ⟨_, rfl, ?_⟩
       have n0_ := Aside0.mk (Kd.N_elder' (by (with_reducible repeat (first | apply Kd.N_alloc | apply Kd.N_drewN | apply Kd.N_drew)); exact HO210.out) (Kd.R_base ho0) hb)
       have n1_ := Aside0.mk (Kd.N_elder' (by (with_reducible repeat (first | apply Kd.N_alloc | apply Kd.N_drewN | apply Kd.N_drew)); exact HO219.out) (Kd.R_base ho0) hb)
       have n2_ := Aside0.mk (Kd.N_elder' (by (with_reducible repeat (first | apply Kd.N_alloc | apply Kd.N_drewN | apply Kd.N_drew)); exact HO228.out) (Kd.R_base ho0) hb)
       have n3_ := Aside0.mk (Kd.N_elder' (by (with_reducible repeat (first | apply Kd.N_alloc | apply Kd.N_drewN | apply Kd.N_drew)); exact HO235.out) (Kd.R_base ho0) hb)
       have n4_ := Aside0.mk (Kd.N_lower (Kd.N_mono (ok' := fun k_ => some k_ ≠ (.slice Ao18 t208.length co18 : Value).ownBlock ∧ some k_ ≠ (.slice Ao23 t217.length co23 : Value).ownBlock ∧ some k_ ≠ (.slice Ao29 t226.length co29 : Value).ownBlock ∧ some k_ ≠ (v234 : Value).ownBlock ∧ k_ ≠ gb213 ∧ k_ ≠ gb222 ∧ k_ ≠ gb229) (Kd.R_N (Kd.R_bound ho0)) (fun k_ hk_ => ⟨(Kd.fresh' (Kd.N_lt (by (with_reducible repeat (first | apply Kd.N_alloc | apply Kd.N_drewN | apply Kd.N_drew)); exact HO210.out)) k_ hk_.2.1), (Kd.fresh' (Kd.N_lt (by (with_reducible repeat (first | apply Kd.N_alloc | apply Kd.N_drewN | apply Kd.N_drew)); exact HO219.out)) k_ hk_.2.1), (Kd.fresh' (Kd.N_lt (by (with_reducible repeat (first | apply Kd.N_alloc | apply Kd.N_drewN | apply Kd.N_drew)); exact HO228.out)) k_ hk_.2.1), (Kd.fresh' (Kd.N_lt (by (with_reducible repeat (first | apply Kd.N_alloc | apply Kd.N_drewN | apply Kd.N_drew)); exact HO235.out)) k_ hk_.2.1), (Kd.freshB (g := gb213) (o := .cells #[.int .i64 t205, .int .u64 t206, .string t207, .slice Ao18 t208.length co18] 25 (0, 0)) (by (with_reducible repeat (first | refine blk_drewN ?_ _ | refine blk_drew ?_ | refine blk_alloc ?_ _)); exact BK213.out) k_ hk_.2.1), (Kd.freshB (g := gb222) (o := .cells #[.int .i64 t214, .int .u64 t215, .string t216, .slice Ao23 t217.length co23] 25 (0, 0)) (by (with_reducible repeat (first | refine blk_drewN ?_ _ | refine blk_drew ?_ | refine blk_alloc ?_ _)); exact BK222.out) k_ hk_.2.1), (Kd.freshB (g := gb229) (o := .cells #[.int .i64 t223, .int .u64 t224, .string t225, .slice Ao29 t226.length co29] 25 (0, 0)) (by (with_reducible repeat (first | refine blk_drewN ?_ _ | refine blk_drew ?_ | refine blk_alloc ?_ _)); exact BK229.out) k_ hk_.2.1)⟩)) (below_size (by repeat (first | (with_reducible first | exact HB.out | apply below_alloc | apply pw_below_drewN | apply below_drew1 | refine below_set ?_ GE213.out | refine below_set ?_ GE222.out | refine below_set ?_ GE229.out) | exact HB.out))))
       have n5_ := Aside0.mk (blk_below (g := gb213) (o := .cells #[.int .i64 t205, .int .u64 t206, .string t207, .slice Ao18 t208.length co18] 25 (0, 0)) (by (with_reducible repeat (first | refine blk_drewN ?_ _ | refine blk_drew ?_ | refine blk_alloc ?_ _)); exact BK213.out) hb)
       have n6_ := Aside0.mk (blk_below (g := gb222) (o := .cells #[.int .i64 t214, .int .u64 t215, .string t216, .slice Ao23 t217.length co23] 25 (0, 0)) (by (with_reducible repeat (first | refine blk_drewN ?_ _ | refine blk_drew ?_ | refine blk_alloc ?_ _)); exact BK222.out) hb)
       have n7_ := Aside0.mk (blk_below (g := gb229) (o := .cells #[.int .i64 t223, .int .u64 t224, .string t225, .slice Ao29 t226.length co29] 25 (0, 0)) (by (with_reducible repeat (first | refine blk_drewN ?_ _ | refine blk_drew ?_ | refine blk_alloc ?_ _)); exact BK229.out) hb)
       have n8_ := Aside0.mk (below_step (by repeat (first | (with_reducible first | exact HB.out | apply below_alloc | apply pw_below_drewN | apply below_drew1 | refine below_set ?_ GE213.out | refine below_set ?_ GE222.out | refine below_set ?_ GE229.out) | exact HB.out)) hb)
       clear HO210
       clear HO219
       clear HO228
       clear HO235
       clear BK213
       clear BK222
       clear BK229
       clear HB
       have HO210 := n0_
       have HO219 := n1_
       have HO228 := n2_
       have HO235 := n3_
       have HO241 := n4_
       have BK213 := n5_
       have BK222 := n6_
       have BK229 := n7_
       have HB := n8_
       clear n0_ n1_ n2_ n3_ n4_ n5_ n6_ n7_ n8_
       (try clear hb)
       (try clear hb2)
       (try clear hk)
       (try clear hi)
       (try clear ho0)
       obtain ⟨Ao34, co34, eo34⟩ := Kd.N_slice HO235.out
       (first | subst eo34 | (injection eo34 with f1_ f2_ f3_; have f4_ := f1_.symm; have f5_ := f3_.symm; clear f1_ f2_ f3_; subst f4_; subst f5_))
       obtain ⟨Ao35, co35, eo35⟩ := Kd.N_slice HO241.out
       (first | subst eo35 | (injection eo35 with f1_ f2_ f3_; have f4_ := f1_.symm; have f5_ := f3_.symm; clear f1_ f2_ f3_; subst f4_; subst f5_))
       refine hK.out _ _ ⟨(blk_cell BK213.out 0).trans rfl, (blk_cell BK213.out 1).trans rfl, (blk_cell BK213.out 2).trans rfl, (blk_cell BK213.out 3).trans rfl, (blk_cell BK222.out 0).trans rfl, (blk_cell BK222.out 1).trans rfl, (blk_cell BK222.out 2).trans rfl, (blk_cell BK222.out 3).trans rfl, (blk_cell BK229.out 0).trans rfl, (blk_cell BK229.out 1).trans rfl, (blk_cell BK229.out 2).trans rfl, (blk_cell BK229.out 3).trans rfl⟩ (fun hHeld => ?_)
       clear hK K
       refine norm_ (a' := ?_) ?_ ?_
       rotate_left
       ·show Act.put _ (some 36) _ = _
        simp only [Act.put, List.setIfInBounds_toArray, List.set_cons_zero, List.set_cons_succ, i64_w, i32_w]
        rfl
       refine one_ (i := 18) (N := some 37) #[true, true, true, true, true, true, true, true, true, true, true, true, true, true, true, true, true, true, true, false, false, false, false, false, false, false, false, false, false, false, false] rfl rfl (one_of HT_.out (by kernel_rfl)) (by decide) (fun K hK => ?_)
       refine Kd.N_lit_step kV _ 25 ?hg (N' := 37) ?hd (xs := ([(⟨t230, t231, t232, t233⟩ : Vl), (⟨t236, t237, t238, t239⟩ : Vl)] : List (Vl))) (inner := [.int .i64 t230, .int .u64 t231, .string t232, .slice Ao34 t233.length co34, .int .i64 t236, .int .u64 t237, .string t238, .slice Ao35 t239.length co35]) (ok := (fun k_ => some k_ ≠ (.slice Ao18 t208.length co18 : Value).ownBlock ∧ some k_ ≠ (.slice Ao23 t217.length co23 : Value).ownBlock ∧ some k_ ≠ (.slice Ao29 t226.length co29 : Value).ownBlock ∧ k_ ≠ gb213 ∧ k_ ≠ gb222 ∧ k_ ≠ gb229)) (okp := (fun k_ => some k_ ≠ (.slice Ao18 t208.length co18 : Value).ownBlock ∧ some k_ ≠ (.slice Ao23 t217.length co23 : Value).ownBlock ∧ some k_ ≠ (.slice Ao29 t226.length co29 : Value).ownBlock ∧ k_ ≠ gb213 ∧ k_ ≠ gb222 ∧ k_ ≠ gb229)) ?hr ?hp (fun _ hk => hk) ((show ∀ k_, w33.heap.size ≤ k_ → (fun k_ => some k_ ≠ (.slice Ao18 t208.length co18 : Value).ownBlock ∧ some k_ ≠ (.slice Ao23 t217.length co23 : Value).ownBlock ∧ some k_ ≠ (.slice Ao29 t226.length co29 : Value).ownBlock ∧ k_ ≠ gb213 ∧ k_ ≠ gb222 ∧ k_ ≠ gb229) k_ from fun k_ hk => ⟨Kd.fresh' (Kd.N_lt (by (with_reducible repeat (first | apply Kd.N_alloc | apply Kd.N_drewN | apply Kd.N_drew)); exact HO210.out)) k_ hk, Kd.fresh' (Kd.N_lt (by (with_reducible repeat (first | apply Kd.N_alloc | apply Kd.N_drewN | apply Kd.N_drew)); exact HO219.out)) k_ hk, Kd.fresh' (Kd.N_lt (by (with_reducible repeat (first | apply Kd.N_alloc | apply Kd.N_drewN | apply Kd.N_drew)); exact HO228.out)) k_ hk, Kd.freshB (g := gb213) (o := .cells #[.int .i64 t205, .int .u64 t206, .string t207, .slice Ao18 t208.length co18] 25 (0, 0)) (by (with_reducible repeat (first | refine blk_drewN ?_ _ | refine blk_drew ?_ | refine blk_alloc ?_ _)); exact BK213.out) k_ hk, Kd.freshB (g := gb222) (o := .cells #[.int .i64 t214, .int .u64 t215, .string t216, .slice Ao23 t217.length co23] 25 (0, 0)) (by (with_reducible repeat (first | refine blk_drewN ?_ _ | refine blk_drew ?_ | refine blk_alloc ?_ _)); exact BK222.out) k_ hk, Kd.freshB (g := gb229) (o := .cells #[.int .i64 t223, .int .u64 t224, .string t225, .slice Ao29 t226.length co29] 25 (0, 0)) (by (with_reducible repeat (first | refine blk_drewN ?_ _ | refine blk_drew ?_ | refine blk_alloc ?_ _)); exact BK229.out) k_ hk⟩) _ (Nat.le_refl _)) (Below.refl _ _) (Nat.le_refl _) (by simp) ?_; (case hd => rfl); (case hg => rfl); (case hr => first | (go_simp; done) | (go_simp; rfl)); (case hp => exact (Reps.c4 (show Kd.FK kV _ _ (⟨t230, t231, t232, t233⟩ : Vl) [.int .i64 t230, .int .u64 t231, .string t232, .slice Ao34 t233.length co34] from (kV_mkF _ _ (⟨t230, t231, t232, t233⟩ : Vl) (Kd.N_reads' (Kd.N_mono (ok' := (fun k_ => some k_ ≠ (.slice Ao18 t208.length co18 : Value).ownBlock ∧ some k_ ≠ (.slice Ao23 t217.length co23 : Value).ownBlock ∧ some k_ ≠ (.slice Ao29 t226.length co29 : Value).ownBlock ∧ k_ ≠ gb213 ∧ k_ ≠ gb222 ∧ k_ ≠ gb229)) (HO235.out) (fun k_ hk => ⟨hk.1.1, ⟨hk.1.2.1, ⟨hk.1.2.2.1, ⟨hk.1.2.2.2.1, ⟨hk.1.2.2.2.2.1, hk.1.2.2.2.2.2⟩⟩⟩⟩⟩))).2.1 (Kd.N_F (Kd.N_mono (ok' := (fun k_ => some k_ ≠ (.slice Ao18 t208.length co18 : Value).ownBlock ∧ some k_ ≠ (.slice Ao23 t217.length co23 : Value).ownBlock ∧ some k_ ≠ (.slice Ao29 t226.length co29 : Value).ownBlock ∧ k_ ≠ gb213 ∧ k_ ≠ gb222 ∧ k_ ≠ gb229)) (HO235.out) (fun k_ hk => ⟨hk.1.1, ⟨hk.1.2.1, ⟨hk.1.2.2.1, ⟨hk.1.2.2.2.1, ⟨hk.1.2.2.2.2.1, hk.1.2.2.2.2.2⟩⟩⟩⟩⟩))))) (Reps.c4 (show Kd.FK kV _ _ (⟨t236, t237, t238, t239⟩ : Vl) [.int .i64 t236, .int .u64 t237, .string t238, .slice Ao35 t239.length co35] from (kV_mkF _ _ (⟨t236, t237, t238, t239⟩ : Vl) (Kd.N_reads' (Kd.N_mono (ok' := (fun k_ => some k_ ≠ (.slice Ao18 t208.length co18 : Value).ownBlock ∧ some k_ ≠ (.slice Ao23 t217.length co23 : Value).ownBlock ∧ some k_ ≠ (.slice Ao29 t226.length co29 : Value).ownBlock ∧ k_ ≠ gb213 ∧ k_ ≠ gb222 ∧ k_ ≠ gb229)) (HO241.out) (fun k_ hk => ⟨hk.1, ⟨hk.2.1, ⟨hk.2.2.1, ⟨hk.2.2.2.2.1, ⟨hk.2.2.2.2.2.1, hk.2.2.2.2.2.2⟩⟩⟩⟩⟩))).2.1 (Kd.N_F (Kd.N_mono (ok' := (fun k_ => some k_ ≠ (.slice Ao18 t208.length co18 : Value).ownBlock ∧ some k_ ≠ (.slice Ao23 t217.length co23 : Value).ownBlock ∧ some k_ ≠ (.slice Ao29 t226.length co29 : Value).ownBlock ∧ k_ ≠ gb213 ∧ k_ ≠ gb222 ∧ k_ ≠ gb229)) (HO241.out) (fun k_ hk => ⟨hk.1, ⟨hk.2.1, ⟨hk.2.2.1, ⟨hk.2.2.2.2.1, ⟨hk.2.2.2.2.2.1, hk.2.2.2.2.2.2⟩⟩⟩⟩⟩))))) (Reps.none _ _))))
       intro v243 w36 ho37 hb hg_ hnew_
       clear hg_ hnew_
       (first | rw [← Ny242.out] at ho37 | (simp only [Int.reduceToNat] at ho37; rw [← Ny242.out] at ho37))
       have n0_ := Aside0.mk (Kd.N_elder' (by (with_reducible repeat (first | apply Kd.N_alloc | apply Kd.N_drewN | apply Kd.N_drew)); exact HO210.out) (Kd.N_base ho37) hb)
       have n1_ := Aside0.mk (Kd.N_elder' (by (with_reducible repeat (first | apply Kd.N_alloc | apply Kd.N_drewN | apply Kd.N_drew)); exact HO219.out) (Kd.N_base ho37) hb)
       have n2_ := Aside0.mk (Kd.N_elder' (by (with_reducible repeat (first | apply Kd.N_alloc | apply Kd.N_drewN | apply Kd.N_drew)); exact HO228.out) (Kd.N_base ho37) hb)
       have n3_ := Aside0.mk (Kd.N_lower ho37 (below_size (by repeat (first | (with_reducible first | exact HB.out | apply below_alloc | apply pw_below_drewN | apply below_drew1 | refine below_set ?_ GE213.out | refine below_set ?_ GE222.out | refine below_set ?_ GE229.out) | exact HB.out))))
       have n4_ := Aside0.mk (blk_below (g := gb213) (o := .cells #[.int .i64 t205, .int .u64 t206, .string t207, .slice Ao18 t208.length co18] 25 (0, 0)) (by (with_reducible repeat (first | refine blk_drewN ?_ _ | refine blk_drew ?_ | refine blk_alloc ?_ _)); exact BK213.out) hb)
       have n5_ := Aside0.mk (blk_below (g := gb222) (o := .cells #[.int .i64 t214, .int .u64 t215, .string t216, .slice Ao23 t217.length co23] 25 (0, 0)) (by (with_reducible repeat (first | refine blk_drewN ?_ _ | refine blk_drew ?_ | refine blk_alloc ?_ _)); exact BK222.out) hb)
       have n6_ := Aside0.mk (blk_below (g := gb229) (o := .cells #[.int .i64 t223, .int .u64 t224, .string t225, .slice Ao29 t226.length co29] 25 (0, 0)) (by (with_reducible repeat (first | refine blk_drewN ?_ _ | refine blk_drew ?_ | refine blk_alloc ?_ _)); exact BK229.out) hb)
       have n7_ := Aside0.mk (below_step (by repeat (first | (with_reducible first | exact HB.out | apply below_alloc | apply pw_below_drewN | apply below_drew1 | refine below_set ?_ GE213.out | refine below_set ?_ GE222.out | refine below_set ?_ GE229.out) | exact HB.out)) hb)
       clear HO210
       clear HO219
       clear HO228
       clear BK213
       clear BK222
       clear BK229
       clear HB
       clear HO235
       clear HO241
       have HO210 := n0_
       have HO219 := n1_
       have HO228 := n2_
       have HO244 := n3_
       have BK213 := n4_
       have BK222 := n5_
       have BK229 := n6_
       have HB := n7_
       clear n0_ n1_ n2_ n3_ n4_ n5_ n6_ n7_
       clear hb ho37
       obtain ⟨Ao38, co38, eo38⟩ := Kd.N_slice HO244.out
       (first | subst eo38 | (injection eo38 with f1_ f2_ f3_; have f4_ := f1_.symm; have f5_ := f3_.symm; clear f1_ f2_ f3_; subst f4_; subst f5_))
       refine hK.out _ _ ⟨(blk_cell BK213.out 0).trans rfl, (blk_cell BK213.out 1).trans rfl, (blk_cell BK213.out 2).trans rfl, (blk_cell BK213.out 3).trans rfl, (blk_cell BK222.out 0).trans rfl, (blk_cell BK222.out 1).trans rfl, (blk_cell BK222.out 2).trans rfl, (blk_cell BK222.out 3).trans rfl, (blk_cell BK229.out 0).trans rfl, (blk_cell BK229.out 1).trans rfl, (blk_cell BK229.out 2).trans rfl, (blk_cell BK229.out 3).trans rfl⟩ (fun hHeld => ?_)
       clear hK K
       refine norm_ (a' := ?_) ?_ ?_
       rotate_left
       ·show Act.put _ (some 37) _ = _
        simp only [Act.put, List.setIfInBounds_toArray, List.set_cons_zero, List.set_cons_succ, i64_w, i32_w]
        rfl
       refine one_ (i := 19) (N := some 38) #[true, true, true, true, true, true, true, true, true, true, true, true, true, true, true, true, true, true, true, true, false, false, false, false, false, false, false, false, false, false, false] rfl rfl (one_of HT_.out (by kernel_rfl)) (by decide) (fun K hK => ?_)
       refine goes_ Tryd.func39 (by kernel_rfl) rfl #[.slice Ao38 y242.length co38] (by rfl) rfl rfl (by (try simp only [List.map_toArray, List.map_cons, List.map_nil]); first | done | rfl | (simp only [List.length_drop, List.length_take]; rfl)) ?_
       with_reducible refine (polyglotkit_L.calls (fun k_ => (some k_ ≠ (.slice Ao18 t208.length co18 : Value).ownBlock ∧ (some k_ ≠ (.slice Ao23 t217.length co23 : Value).ownBlock ∧ (some k_ ≠ (.slice Ao29 t226.length co29 : Value).ownBlock ∧ (k_ ≠ gb213 ∧ (k_ ≠ gb222 ∧ k_ ≠ gb229)))))) _ _ y242 t245 t246 t247 t248 _ ?side1 A10.out).mono ?_
       (case side1 => exact Kd.N_V (HO244.out))
       rintro e w39 ⟨v249, rfl, ho0, hb⟩
       refine ⟨_, rfl, ?_⟩
       have n0_ := Aside0.mk (Kd.N_below (by (with_reducible repeat (first | apply Kd.N_alloc | apply Kd.N_drewN | apply Kd.N_drew)); exact HO210.out) hb)
       have n1_ := Aside0.mk (Kd.N_below (by (with_reducible repeat (first | apply Kd.N_alloc | apply Kd.N_drewN | apply Kd.N_drew)); exact HO219.out) hb)
       have n2_ := Aside0.mk (Kd.N_below (by (with_reducible repeat (first | apply Kd.N_alloc | apply Kd.N_drewN | apply Kd.N_drew)); exact HO228.out) hb)
       have n3_ := Aside0.mk (Kd.N_below (by (with_reducible repeat (first | apply Kd.N_alloc | apply Kd.N_drewN | apply Kd.N_drew)); exact HO244.out) hb)
       have n4_ := Aside0.mk (Kd.V_lower (Kd.V_mono (ok' := fun k_ => some k_ ≠ (.slice Ao18 t208.length co18 : Value).ownBlock ∧ some k_ ≠ (.slice Ao23 t217.length co23 : Value).ownBlock ∧ some k_ ≠ (.slice Ao29 t226.length co29 : Value).ownBlock ∧ k_ ≠ gb213 ∧ k_ ≠ gb222 ∧ k_ ≠ gb229) ho0 (fun k_ hk_ => ⟨Or.elim hk_ (fun hs_ => hs_.1) (fun hn_ => (Kd.fresh' (Kd.N_lt (by (with_reducible repeat (first | apply Kd.N_alloc | apply Kd.N_drewN | apply Kd.N_drew)); exact HO210.out)) k_ hn_)), Or.elim hk_ (fun hs_ => hs_.2.1) (fun hn_ => (Kd.fresh' (Kd.N_lt (by (with_reducible repeat (first | apply Kd.N_alloc | apply Kd.N_drewN | apply Kd.N_drew)); exact HO219.out)) k_ hn_)), Or.elim hk_ (fun hs_ => hs_.2.2.1) (fun hn_ => (Kd.fresh' (Kd.N_lt (by (with_reducible repeat (first | apply Kd.N_alloc | apply Kd.N_drewN | apply Kd.N_drew)); exact HO228.out)) k_ hn_)), Or.elim hk_ (fun hs_ => hs_.2.2.2.1) (fun hn_ => (Kd.freshB (g := gb213) (o := .cells #[.int .i64 t205, .int .u64 t206, .string t207, .slice Ao18 t208.length co18] 25 (0, 0)) (by (with_reducible repeat (first | refine blk_drewN ?_ _ | refine blk_drew ?_ | refine blk_alloc ?_ _)); exact BK213.out) k_ hn_)), Or.elim hk_ (fun hs_ => hs_.2.2.2.2.1) (fun hn_ => (Kd.freshB (g := gb222) (o := .cells #[.int .i64 t214, .int .u64 t215, .string t216, .slice Ao23 t217.length co23] 25 (0, 0)) (by (with_reducible repeat (first | refine blk_drewN ?_ _ | refine blk_drew ?_ | refine blk_alloc ?_ _)); exact BK222.out) k_ hn_)), Or.elim hk_ (fun hs_ => hs_.2.2.2.2.2) (fun hn_ => (Kd.freshB (g := gb229) (o := .cells #[.int .i64 t223, .int .u64 t224, .string t225, .slice Ao29 t226.length co29] 25 (0, 0)) (by (with_reducible repeat (first | refine blk_drewN ?_ _ | refine blk_drew ?_ | refine blk_alloc ?_ _)); exact BK229.out) k_ hn_))⟩)) (below_size (by repeat (first | (with_reducible first | exact HB.out | apply below_alloc | apply pw_below_drewN | apply below_drew1 | refine below_set ?_ GE213.out | refine below_set ?_ GE222.out | refine below_set ?_ GE229.out) | exact HB.out))))
       have n5_ := Aside0.mk (blk_below (g := gb213) (o := .cells #[.int .i64 t205, .int .u64 t206, .string t207, .slice Ao18 t208.length co18] 25 (0, 0)) (by (with_reducible repeat (first | refine blk_drewN ?_ _ | refine blk_drew ?_ | refine blk_alloc ?_ _)); exact BK213.out) hb)
       have n6_ := Aside0.mk (blk_below (g := gb222) (o := .cells #[.int .i64 t214, .int .u64 t215, .string t216, .slice Ao23 t217.length co23] 25 (0, 0)) (by (with_reducible repeat (first | refine blk_drewN ?_ _ | refine blk_drew ?_ | refine blk_alloc ?_ _)); exact BK222.out) hb)
       have n7_ := Aside0.mk (blk_below (g := gb229) (o := .cells #[.int .i64 t223, .int .u64 t224, .string t225, .slice Ao29 t226.length co29] 25 (0, 0)) (by (with_reducible repeat (first | refine blk_drewN ?_ _ | refine blk_drew ?_ | refine blk_alloc ?_ _)); exact BK229.out) hb)
       have n8_ := Aside0.mk (below_step (by repeat (first | (with_reducible first | exact HB.out | apply below_alloc | apply pw_below_drewN | apply below_drew1 | refine below_set ?_ GE213.out | refine below_set ?_ GE222.out | refine below_set ?_ GE229.out) | exact HB.out)) hb)
       clear HO210
       clear HO219
       clear HO228
       clear HO244
       clear BK213
       clear BK222
       clear BK229
       clear HB
       have HO210 := n0_
       have HO219 := n1_
       have HO228 := n2_
       have HO244 := n3_
       have HO250 := n4_
       have BK213 := n5_
       have BK222 := n6_
       have BK229 := n7_
       have HB := n8_
       clear n0_ n1_ n2_ n3_ n4_ n5_ n6_ n7_ n8_
       (try clear hb)
       (try clear hb2)
       (try clear hk)
       (try clear hi)
       (try clear ho0)
       obtain ⟨Ao40, co40, eo40⟩ := Kd.V_slice HO250.out
       (first | subst eo40 | (injection eo40 with f1_ f2_ f3_; have f4_ := f1_.symm; have f5_ := f3_.symm; clear f1_ f2_ f3_; subst f4_; subst f5_))
       refine hK.out _ _ ⟨(blk_cell BK213.out 0).trans rfl, (blk_cell BK213.out 1).trans rfl, (blk_cell BK213.out 2).trans rfl, (blk_cell BK213.out 3).trans rfl, (blk_cell BK222.out 0).trans rfl, (blk_cell BK222.out 1).trans rfl, (blk_cell BK222.out 2).trans rfl, (blk_cell BK222.out 3).trans rfl, (blk_cell BK229.out 0).trans rfl, (blk_cell BK229.out 1).trans rfl, (blk_cell BK229.out 2).trans rfl, (blk_cell BK229.out 3).trans rfl⟩ (fun hHeld => ?_)
       clear hK K
       refine norm_ (a' := ?_) ?_ ?_
       rotate_left
       ·show Act.put _ (some 38) _ = _
        simp only [Act.put, List.setIfInBounds_toArray, List.set_cons_zero, List.set_cons_succ, i64_w, i32_w]
        rfl
       refine one_ (i := 20) (N := some 39) #[true, true, true, true, true, true, true, true, true, true, true, true, true, true, true, true, true, true, true, true, true, false, false, false, false, false, false, false, false, false, false] rfl rfl (one_of HT_.out (by kernel_rfl)) (by decide) (fun K hK => ?_)
       refine goes_ Tryd.func26 (by kernel_rfl) rfl #[.agg #[.int .i64 t205, .int .u64 t206, .string t207, .slice Ao18 t208.length co18], .agg #[.int .i64 t245, .int .u64 t246, .string t247, .slice Ao40 t248.length co40]] (by rfl) rfl rfl (by (try simp only [List.map_toArray, List.map_cons, List.map_nil]); first | done | rfl | (simp only [List.length_drop, List.length_take]; rfl)) ?_
       with_reducible refine (polyglotkit_SameValue.calls k t205 t206 t207 _ _ t208 t245 t246 t247 _ _ t248 true _ ?side1 ?side2 ?side3 ?side4 A11.out).mono ?_
       (case side1 => repeat (first | exact (Kd.N_reads' HO210.out).2.2 | (with_reducible refine Kd.C_alloc ?_ _) | (with_reducible refine Kd.C_drewN ?_ _) | (with_reducible refine Kd.C_drew ?_)))
       (case side2 => exact (Kd.N_reads' HO210.out).2.1)
       (case side3 => repeat (first | exact (Kd.V_reads' HO250.out).2.2 | (with_reducible refine Kd.C_alloc ?_ _) | (with_reducible refine Kd.C_drewN ?_ _) | (with_reducible refine Kd.C_drew ?_)))
       (case side4 => exact (Kd.V_reads' HO250.out).2.1)
       rintro e w41 ⟨rfl, hb⟩
       refine ⟨_, rfl, ?_⟩
       have n0_ := Aside0.mk (Kd.N_below (by (with_reducible repeat (first | apply Kd.N_alloc | apply Kd.N_drewN | apply Kd.N_drew)); exact HO210.out) hb)
       have n1_ := Aside0.mk (Kd.N_below (by (with_reducible repeat (first | apply Kd.N_alloc | apply Kd.N_drewN | apply Kd.N_drew)); exact HO219.out) hb)
       have n2_ := Aside0.mk (Kd.N_below (by (with_reducible repeat (first | apply Kd.N_alloc | apply Kd.N_drewN | apply Kd.N_drew)); exact HO228.out) hb)
       have n3_ := Aside0.mk (Kd.N_below (by (with_reducible repeat (first | apply Kd.N_alloc | apply Kd.N_drewN | apply Kd.N_drew)); exact HO244.out) hb)
       have n4_ := Aside0.mk (Kd.V_below (by (with_reducible repeat (first | apply Kd.V_alloc | apply Kd.V_drewN | apply Kd.V_drew)); exact HO250.out) hb)
       have n5_ := Aside0.mk (blk_below (g := gb213) (o := .cells #[.int .i64 t205, .int .u64 t206, .string t207, .slice Ao18 t208.length co18] 25 (0, 0)) (by (with_reducible repeat (first | refine blk_drewN ?_ _ | refine blk_drew ?_ | refine blk_alloc ?_ _)); exact BK213.out) hb)
       have n6_ := Aside0.mk (blk_below (g := gb222) (o := .cells #[.int .i64 t214, .int .u64 t215, .string t216, .slice Ao23 t217.length co23] 25 (0, 0)) (by (with_reducible repeat (first | refine blk_drewN ?_ _ | refine blk_drew ?_ | refine blk_alloc ?_ _)); exact BK222.out) hb)
       have n7_ := Aside0.mk (blk_below (g := gb229) (o := .cells #[.int .i64 t223, .int .u64 t224, .string t225, .slice Ao29 t226.length co29] 25 (0, 0)) (by (with_reducible repeat (first | refine blk_drewN ?_ _ | refine blk_drew ?_ | refine blk_alloc ?_ _)); exact BK229.out) hb)
       have n8_ := Aside0.mk (below_step (by repeat (first | (with_reducible first | exact HB.out | apply below_alloc | apply pw_below_drewN | apply below_drew1 | refine below_set ?_ GE213.out | refine below_set ?_ GE222.out | refine below_set ?_ GE229.out) | exact HB.out)) hb)
       clear HO210
       clear HO219
       clear HO228
       clear HO244
       clear HO250
       clear BK213
       clear BK222
       clear BK229
       clear HB
       have HO210 := n0_
       have HO219 := n1_
       have HO228 := n2_
       have HO244 := n3_
       have HO250 := n4_
       have BK213 := n5_
       have BK222 := n6_
       have BK229 := n7_
       have HB := n8_
       clear n0_ n1_ n2_ n3_ n4_ n5_ n6_ n7_ n8_
       (try clear hb)
       (try clear hb2)
       (try clear hk)
       (try clear hi)
       refine hK.out _ _ ⟨(blk_cell BK213.out 0).trans rfl, (blk_cell BK213.out 1).trans rfl, (blk_cell BK213.out 2).trans rfl, (blk_cell BK213.out 3).trans rfl, (blk_cell BK222.out 0).trans rfl, (blk_cell BK222.out 1).trans rfl, (blk_cell BK222.out 2).trans rfl, (blk_cell BK222.out 3).trans rfl, (blk_cell BK229.out 0).trans rfl, (blk_cell BK229.out 1).trans rfl, (blk_cell BK229.out 2).trans rfl, (blk_cell BK229.out 3).trans rfl⟩ (fun hHeld => ?_)
       clear hK K
       refine norm_ (a' := ?_) ?_ ?_
       rotate_left
       ·show Act.put _ (some 39) _ = _
        simp only [Act.put, List.setIfInBounds_toArray, List.set_cons_zero, List.set_cons_succ, i64_w, i32_w]
        rfl
       refine pure_ (i := 21) (N := some 40) (v := ?_) (a' := ?_) #[true, true, true, true, true, true, true, true, true, true, true, true, true, true, true, true, true, true, true, true, true, true, false, false, false, false, false, false, false, false, false] rfl rfl (any_of HT_.out (by kernel_rfl)) (fun _ _ _ h => h) (Or.inl ⟨by rfl, ?_⟩) ?_ ?_
       rotate_left
       ·intro w'
        go_simp
        with_reducible rfl
       rotate_left
       ·simp only [Act.put, List.setIfInBounds_toArray, List.set_cons_zero, List.set_cons_succ, i64_w, i32_w]
        rfl
       refine pure_ (i := 22) (N := some 41) (v := ?_) (a' := ?_) #[true, true, true, true, true, true, true, true, true, true, true, true, true, true, true, true, true, true, true, true, true, true, true, false, false, false, false, false, false, false, false] rfl rfl (any_of HT_.out (by kernel_rfl)) (fun _ _ _ h => h) (Or.inl ⟨by rfl, ?_⟩) ?_ ?_
       rotate_left
       ·intro w'
        go_simp
        with_reducible rfl
       rotate_left
       ·simp only [Act.put, List.setIfInBounds_toArray, List.set_cons_zero, List.set_cons_succ, i64_w, i32_w]
        rfl
       refine take_ (i := 23) (N := some 42) (v := ?_) (a' := ?_) #[true, true, true, true, true, true, true, true, true, true, true, true, true, true, true, true, true, true, true, true, true, true, true, true, false, false, false, false, false, false, false] rfl rfl (take_ofW HT_.out HW_.out (by kernel_rfl)) (fun _ _ _ h => h) (Or.inl ⟨by rfl, ?_⟩) hHeld ?_ ?_
       rotate_left
       ·rintro w' ⟨s0, s1, s2, s3, s4, s5, s6, s7, s8, s9, s10, s11⟩
        go_simp
        with_reducible rfl
       rotate_left
       ·simp only [Act.put, List.setIfInBounds_toArray, List.set_cons_zero, List.set_cons_succ, i64_w, i32_w]
        rfl
       refine take_ (i := 24) (N := some 43) (v := ?_) (a' := ?_) #[true, true, true, true, true, true, true, true, true, true, true, true, true, true, true, true, true, true, true, true, true, true, true, true, true, false, false, false, false, false, false] rfl rfl (take_ofW HT_.out HW_.out (by kernel_rfl)) (fun _ _ _ h => h) (Or.inl ⟨by rfl, ?_⟩) hHeld ?_ ?_
       rotate_left
       ·rintro w' ⟨s0, s1, s2, s3, s4, s5, s6, s7, s8, s9, s10, s11⟩
        go_simp
        with_reducible rfl
       rotate_left
       ·simp only [Act.put, List.setIfInBounds_toArray, List.set_cons_zero, List.set_cons_succ, i64_w, i32_w]
        rfl
       refine one_ (i := 25) (N := some 44) #[true, true, true, true, true, true, true, true, true, true, true, true, true, true, true, true, true, true, true, true, true, true, true, true, true, true, false, false, false, false, false] rfl rfl (one_of HT_.out (by kernel_rfl)) (by decide) (fun K hK => ?_)
       refine goes_ Tryd.func35 (by kernel_rfl) rfl #[.int .i64 3, .int .u64 2] (by rfl) rfl rfl (by (try simp only [List.map_toArray, List.map_cons, List.map_nil]); first | done | rfl | (simp only [List.length_drop, List.length_take]; rfl)) ?_
       with_reducible refine (polyglotkit_N.calls 3 2 t252 t253 t254 t255 _ A13.out).mono ?_
       rintro e w42 ⟨v256, rfl, ho0, hb⟩
       refine ⟨_, rfl, ?_⟩
       have n0_ := Aside0.mk (Kd.N_elder' (by (with_reducible repeat (first | apply Kd.N_alloc | apply Kd.N_drewN | apply Kd.N_drew)); exact HO210.out) (Kd.R_base ho0) hb)
       have n1_ := Aside0.mk (Kd.N_elder' (by (with_reducible repeat (first | apply Kd.N_alloc | apply Kd.N_drewN | apply Kd.N_drew)); exact HO219.out) (Kd.R_base ho0) hb)
       have n2_ := Aside0.mk (Kd.N_elder' (by (with_reducible repeat (first | apply Kd.N_alloc | apply Kd.N_drewN | apply Kd.N_drew)); exact HO228.out) (Kd.R_base ho0) hb)
       have n3_ := Aside0.mk (Kd.N_elder' (by (with_reducible repeat (first | apply Kd.N_alloc | apply Kd.N_drewN | apply Kd.N_drew)); exact HO244.out) (Kd.R_base ho0) hb)
       have n4_ := Aside0.mk (Kd.V_elder' (by (with_reducible repeat (first | apply Kd.V_alloc | apply Kd.V_drewN | apply Kd.V_drew)); exact HO250.out) (Kd.R_base ho0) hb)
       have n5_ := Aside0.mk (Kd.N_lower (Kd.N_mono (ok' := fun k_ => some k_ ≠ (.slice Ao18 t208.length co18 : Value).ownBlock ∧ some k_ ≠ (.slice Ao23 t217.length co23 : Value).ownBlock ∧ some k_ ≠ (.slice Ao29 t226.length co29 : Value).ownBlock ∧ some k_ ≠ (.slice Ao38 y242.length co38 : Value).ownBlock ∧ k_ ≠ gb213 ∧ k_ ≠ gb222 ∧ k_ ≠ gb229) (Kd.R_N (Kd.R_bound ho0)) (fun k_ hk_ => ⟨(Kd.fresh' (Kd.N_lt (by (with_reducible repeat (first | apply Kd.N_alloc | apply Kd.N_drewN | apply Kd.N_drew)); exact HO210.out)) k_ hk_.2.1), (Kd.fresh' (Kd.N_lt (by (with_reducible repeat (first | apply Kd.N_alloc | apply Kd.N_drewN | apply Kd.N_drew)); exact HO219.out)) k_ hk_.2.1), (Kd.fresh' (Kd.N_lt (by (with_reducible repeat (first | apply Kd.N_alloc | apply Kd.N_drewN | apply Kd.N_drew)); exact HO228.out)) k_ hk_.2.1), (Kd.fresh' (Kd.N_lt (by (with_reducible repeat (first | apply Kd.N_alloc | apply Kd.N_drewN | apply Kd.N_drew)); exact HO244.out)) k_ hk_.2.1), (Kd.freshB (g := gb213) (o := .cells #[.int .i64 t205, .int .u64 t206, .string t207, .slice Ao18 t208.length co18] 25 (0, 0)) (by (with_reducible repeat (first | refine blk_drewN ?_ _ | refine blk_drew ?_ | refine blk_alloc ?_ _)); exact BK213.out) k_ hk_.2.1), (Kd.freshB (g := gb222) (o := .cells #[.int .i64 t214, .int .u64 t215, .string t216, .slice Ao23 t217.length co23] 25 (0, 0)) (by (with_reducible repeat (first | refine blk_drewN ?_ _ | refine blk_drew ?_ | refine blk_alloc ?_ _)); exact BK222.out) k_ hk_.2.1), (Kd.freshB (g := gb229) (o := .cells #[.int .i64 t223, .int .u64 t224, .string t225, .slice Ao29 t226.length co29] 25 (0, 0)) (by (with_reducible repeat (first | refine blk_drewN ?_ _ | refine blk_drew ?_ | refine blk_alloc ?_ _)); exact BK229.out) k_ hk_.2.1)⟩)) (below_size (by repeat (first | (with_reducible first | exact HB.out | apply below_alloc | apply pw_below_drewN | apply below_drew1 | refine below_set ?_ GE213.out | refine below_set ?_ GE222.out | refine below_set ?_ GE229.out) | exact HB.out))))
       have n6_ := Aside0.mk (blk_below (g := gb213) (o := .cells #[.int .i64 t205, .int .u64 t206, .string t207, .slice Ao18 t208.length co18] 25 (0, 0)) (by (with_reducible repeat (first | refine blk_drewN ?_ _ | refine blk_drew ?_ | refine blk_alloc ?_ _)); exact BK213.out) hb)
       have n7_ := Aside0.mk (blk_below (g := gb222) (o := .cells #[.int .i64 t214, .int .u64 t215, .string t216, .slice Ao23 t217.length co23] 25 (0, 0)) (by (with_reducible repeat (first | refine blk_drewN ?_ _ | refine blk_drew ?_ | refine blk_alloc ?_ _)); exact BK222.out) hb)
       have n8_ := Aside0.mk (blk_below (g := gb229) (o := .cells #[.int .i64 t223, .int .u64 t224, .string t225, .slice Ao29 t226.length co29] 25 (0, 0)) (by (with_reducible repeat (first | refine blk_drewN ?_ _ | refine blk_drew ?_ | refine blk_alloc ?_ _)); exact BK229.out) hb)
       have n9_ := Aside0.mk (below_step (by repeat (first | (with_reducible first | exact HB.out | apply below_alloc | apply pw_below_drewN | apply below_drew1 | refine below_set ?_ GE213.out | refine below_set ?_ GE222.out | refine below_set ?_ GE229.out) | exact HB.out)) hb)
       clear HO210
       clear HO219
       clear HO228
       clear HO244
       clear HO250
       clear BK213
       clear BK222
       clear BK229
       clear HB
       have HO210 := n0_
       have HO219 := n1_
       have HO228 := n2_
       have HO244 := n3_
       have HO250 := n4_
       have HO257 := n5_
       have BK213 := n6_
       have BK222 := n7_
       have BK229 := n8_
       have HB := n9_
       clear n0_ n1_ n2_ n3_ n4_ n5_ n6_ n7_ n8_ n9_
       (try clear hb)
       (try clear hb2)
       (try clear hk)
       (try clear hi)
       (try clear ho0)
       obtain ⟨Ao43, co43, eo43⟩ := Kd.N_slice HO257.out
       (first | subst eo43 | (injection eo43 with f1_ f2_ f3_; have f4_ := f1_.symm; have f5_ := f3_.symm; clear f1_ f2_ f3_; subst f4_; subst f5_))
       refine hK.out _ _ ⟨(blk_cell BK213.out 0).trans rfl, (blk_cell BK213.out 1).trans rfl, (blk_cell BK213.out 2).trans rfl, (blk_cell BK213.out 3).trans rfl, (blk_cell BK222.out 0).trans rfl, (blk_cell BK222.out 1).trans rfl, (blk_cell BK222.out 2).trans rfl, (blk_cell BK222.out 3).trans rfl, (blk_cell BK229.out 0).trans rfl, (blk_cell BK229.out 1).trans rfl, (blk_cell BK229.out 2).trans rfl, (blk_cell BK229.out 3).trans rfl⟩ (fun hHeld => ?_)
       clear hK K
       refine norm_ (a' := ?_) ?_ ?_
       rotate_left
       ·show Act.put _ (some 44) _ = _
        simp only [Act.put, List.setIfInBounds_toArray, List.set_cons_zero, List.set_cons_succ, i64_w, i32_w]
        rfl
       refine one_ (i := 26) (N := some 45) #[true, true, true, true, true, true, true, true, true, true, true, true, true, true, true, true, true, true, true, true, true, true, true, true, true, true, true, false, false, false, false] rfl rfl (one_of HT_.out (by kernel_rfl)) (by decide) (fun K hK => ?_)
       refine Kd.N_lit_step kV _ 25 ?hg (N' := 45) ?hd (xs := ([(⟨t223, t224, t225, t226⟩ : Vl), (⟨t252, t253, t254, t255⟩ : Vl)] : List (Vl))) (inner := [.int .i64 t223, .int .u64 t224, .string t225, .slice Ao29 t226.length co29, .int .i64 t252, .int .u64 t253, .string t254, .slice Ao43 t255.length co43]) (ok := (fun k_ => some k_ ≠ (.slice Ao18 t208.length co18 : Value).ownBlock ∧ some k_ ≠ (.slice Ao23 t217.length co23 : Value).ownBlock ∧ some k_ ≠ (.slice Ao38 y242.length co38 : Value).ownBlock ∧ k_ ≠ gb213 ∧ k_ ≠ gb222 ∧ k_ ≠ gb229)) (okp := (fun k_ => some k_ ≠ (.slice Ao18 t208.length co18 : Value).ownBlock ∧ some k_ ≠ (.slice Ao23 t217.length co23 : Value).ownBlock ∧ some k_ ≠ (.slice Ao38 y242.length co38 : Value).ownBlock ∧ k_ ≠ gb213 ∧ k_ ≠ gb222 ∧ k_ ≠ gb229)) ?hr ?hp (fun _ hk => hk) ((show ∀ k_, w42.heap.size ≤ k_ → (fun k_ => some k_ ≠ (.slice Ao18 t208.length co18 : Value).ownBlock ∧ some k_ ≠ (.slice Ao23 t217.length co23 : Value).ownBlock ∧ some k_ ≠ (.slice Ao38 y242.length co38 : Value).ownBlock ∧ k_ ≠ gb213 ∧ k_ ≠ gb222 ∧ k_ ≠ gb229) k_ from fun k_ hk => ⟨Kd.fresh' (Kd.N_lt (by (with_reducible repeat (first | apply Kd.N_alloc | apply Kd.N_drewN | apply Kd.N_drew)); exact HO210.out)) k_ hk, Kd.fresh' (Kd.N_lt (by (with_reducible repeat (first | apply Kd.N_alloc | apply Kd.N_drewN | apply Kd.N_drew)); exact HO219.out)) k_ hk, Kd.fresh' (Kd.N_lt (by (with_reducible repeat (first | apply Kd.N_alloc | apply Kd.N_drewN | apply Kd.N_drew)); exact HO244.out)) k_ hk, Kd.freshB (g := gb213) (o := .cells #[.int .i64 t205, .int .u64 t206, .string t207, .slice Ao18 t208.length co18] 25 (0, 0)) (by (with_reducible repeat (first | refine blk_drewN ?_ _ | refine blk_drew ?_ | refine blk_alloc ?_ _)); exact BK213.out) k_ hk, Kd.freshB (g := gb222) (o := .cells #[.int .i64 t214, .int .u64 t215, .string t216, .slice Ao23 t217.length co23] 25 (0, 0)) (by (with_reducible repeat (first | refine blk_drewN ?_ _ | refine blk_drew ?_ | refine blk_alloc ?_ _)); exact BK222.out) k_ hk, Kd.freshB (g := gb229) (o := .cells #[.int .i64 t223, .int .u64 t224, .string t225, .slice Ao29 t226.length co29] 25 (0, 0)) (by (with_reducible repeat (first | refine blk_drewN ?_ _ | refine blk_drew ?_ | refine blk_alloc ?_ _)); exact BK229.out) k_ hk⟩) _ (Nat.le_refl _)) (Below.refl _ _) (Nat.le_refl _) (by simp) ?_; (case hd => rfl); (case hg => rfl); (case hr => first | (go_simp; done) | (go_simp; rfl)); (case hp => exact (Reps.c4 (show Kd.FK kV _ _ (⟨t223, t224, t225, t226⟩ : Vl) [.int .i64 t223, .int .u64 t224, .string t225, .slice Ao29 t226.length co29] from (kV_mkF _ _ (⟨t223, t224, t225, t226⟩ : Vl) (Kd.N_reads' (Kd.N_mono (ok' := (fun k_ => some k_ ≠ (.slice Ao18 t208.length co18 : Value).ownBlock ∧ some k_ ≠ (.slice Ao23 t217.length co23 : Value).ownBlock ∧ some k_ ≠ (.slice Ao38 y242.length co38 : Value).ownBlock ∧ k_ ≠ gb213 ∧ k_ ≠ gb222 ∧ k_ ≠ gb229)) (HO228.out) (fun k_ hk => ⟨hk.1.1.1.1.1, ⟨hk.1.1.1.1.2.1, ⟨hk.1.2, ⟨hk.1.1.1.1.2.2.1, ⟨hk.1.1.1.1.2.2.2.1, hk.1.1.1.1.2.2.2.2⟩⟩⟩⟩⟩))).2.1 (Kd.N_F (Kd.N_mono (ok' := (fun k_ => some k_ ≠ (.slice Ao18 t208.length co18 : Value).ownBlock ∧ some k_ ≠ (.slice Ao23 t217.length co23 : Value).ownBlock ∧ some k_ ≠ (.slice Ao38 y242.length co38 : Value).ownBlock ∧ k_ ≠ gb213 ∧ k_ ≠ gb222 ∧ k_ ≠ gb229)) (HO228.out) (fun k_ hk => ⟨hk.1.1.1.1.1, ⟨hk.1.1.1.1.2.1, ⟨hk.1.2, ⟨hk.1.1.1.1.2.2.1, ⟨hk.1.1.1.1.2.2.2.1, hk.1.1.1.1.2.2.2.2⟩⟩⟩⟩⟩))))) (Reps.c4 (show Kd.FK kV _ _ (⟨t252, t253, t254, t255⟩ : Vl) [.int .i64 t252, .int .u64 t253, .string t254, .slice Ao43 t255.length co43] from (kV_mkF _ _ (⟨t252, t253, t254, t255⟩ : Vl) (Kd.N_reads' (Kd.N_mono (ok' := (fun k_ => some k_ ≠ (.slice Ao18 t208.length co18 : Value).ownBlock ∧ some k_ ≠ (.slice Ao23 t217.length co23 : Value).ownBlock ∧ some k_ ≠ (.slice Ao38 y242.length co38 : Value).ownBlock ∧ k_ ≠ gb213 ∧ k_ ≠ gb222 ∧ k_ ≠ gb229)) (HO257.out) (fun k_ hk => ⟨hk.1, ⟨hk.2.1, ⟨hk.2.2.2.1, ⟨hk.2.2.2.2.1, ⟨hk.2.2.2.2.2.1, hk.2.2.2.2.2.2⟩⟩⟩⟩⟩))).2.1 (Kd.N_F (Kd.N_mono (ok' := (fun k_ => some k_ ≠ (.slice Ao18 t208.length co18 : Value).ownBlock ∧ some k_ ≠ (.slice Ao23 t217.length co23 : Value).ownBlock ∧ some k_ ≠ (.slice Ao38 y242.length co38 : Value).ownBlock ∧ k_ ≠ gb213 ∧ k_ ≠ gb222 ∧ k_ ≠ gb229)) (HO257.out) (fun k_ hk => ⟨hk.1, ⟨hk.2.1, ⟨hk.2.2.2.1, ⟨hk.2.2.2.2.1, ⟨hk.2.2.2.2.2.1, hk.2.2.2.2.2.2⟩⟩⟩⟩⟩))))) (Reps.none _ _))))
       intro v259 w44 ho45 hb hg_ hnew_
       clear hg_ hnew_
       (first | rw [← Ny258.out] at ho45 | (simp only [Int.reduceToNat] at ho45; rw [← Ny258.out] at ho45))
       have n0_ := Aside0.mk (Kd.N_elder' (by (with_reducible repeat (first | apply Kd.N_alloc | apply Kd.N_drewN | apply Kd.N_drew)); exact HO210.out) (Kd.N_base ho45) hb)
       have n1_ := Aside0.mk (Kd.N_elder' (by (with_reducible repeat (first | apply Kd.N_alloc | apply Kd.N_drewN | apply Kd.N_drew)); exact HO219.out) (Kd.N_base ho45) hb)
       have n2_ := Aside0.mk (Kd.N_elder' (by (with_reducible repeat (first | apply Kd.N_alloc | apply Kd.N_drewN | apply Kd.N_drew)); exact HO244.out) (Kd.N_base ho45) hb)
       have n3_ := Aside0.mk (Kd.V_elder' (by (with_reducible repeat (first | apply Kd.V_alloc | apply Kd.V_drewN | apply Kd.V_drew)); exact HO250.out) (Kd.N_base ho45) hb)
       have n4_ := Aside0.mk (Kd.N_lower ho45 (below_size (by repeat (first | (with_reducible first | exact HB.out | apply below_alloc | apply pw_below_drewN | apply below_drew1 | refine below_set ?_ GE213.out | refine below_set ?_ GE222.out | refine below_set ?_ GE229.out) | exact HB.out))))
       have n5_ := Aside0.mk (blk_below (g := gb213) (o := .cells #[.int .i64 t205, .int .u64 t206, .string t207, .slice Ao18 t208.length co18] 25 (0, 0)) (by (with_reducible repeat (first | refine blk_drewN ?_ _ | refine blk_drew ?_ | refine blk_alloc ?_ _)); exact BK213.out) hb)
       have n6_ := Aside0.mk (blk_below (g := gb222) (o := .cells #[.int .i64 t214, .int .u64 t215, .string t216, .slice Ao23 t217.length co23] 25 (0, 0)) (by (with_reducible repeat (first | refine blk_drewN ?_ _ | refine blk_drew ?_ | refine blk_alloc ?_ _)); exact BK222.out) hb)
       have n7_ := Aside0.mk (blk_below (g := gb229) (o := .cells #[.int .i64 t223, .int .u64 t224, .string t225, .slice Ao29 t226.length co29] 25 (0, 0)) (by (with_reducible repeat (first | refine blk_drewN ?_ _ | refine blk_drew ?_ | refine blk_alloc ?_ _)); exact BK229.out) hb)
       have n8_ := Aside0.mk (below_step (by repeat (first | (with_reducible first | exact HB.out | apply below_alloc | apply pw_below_drewN | apply below_drew1 | refine below_set ?_ GE213.out | refine below_set ?_ GE222.out | refine below_set ?_ GE229.out) | exact HB.out)) hb)
       clear HO210
       clear HO219
       clear HO244
       clear HO250
       clear BK213
       clear BK222
       clear BK229
       clear HB
       clear HO228
       clear HO257
       have HO210 := n0_
       have HO219 := n1_
       have HO244 := n2_
       have HO250 := n3_
       have HO260 := n4_
       have BK213 := n5_
       have BK222 := n6_
       have BK229 := n7_
       have HB := n8_
       clear n0_ n1_ n2_ n3_ n4_ n5_ n6_ n7_ n8_
       clear hb ho45
       obtain ⟨Ao46, co46, eo46⟩ := Kd.N_slice HO260.out
       (first | subst eo46 | (injection eo46 with f1_ f2_ f3_; have f4_ := f1_.symm; have f5_ := f3_.symm; clear f1_ f2_ f3_; subst f4_; subst f5_))
       refine hK.out _ _ ⟨(blk_cell BK213.out 0).trans rfl, (blk_cell BK213.out 1).trans rfl, (blk_cell BK213.out 2).trans rfl, (blk_cell BK213.out 3).trans rfl, (blk_cell BK222.out 0).trans rfl, (blk_cell BK222.out 1).trans rfl, (blk_cell BK222.out 2).trans rfl, (blk_cell BK222.out 3).trans rfl, (blk_cell BK229.out 0).trans rfl, (blk_cell BK229.out 1).trans rfl, (blk_cell BK229.out 2).trans rfl, (blk_cell BK229.out 3).trans rfl⟩ (fun hHeld => ?_)
       clear hK K
       refine norm_ (a' := ?_) ?_ ?_
       rotate_left
       ·show Act.put _ (some 45) _ = _
        simp only [Act.put, List.setIfInBounds_toArray, List.set_cons_zero, List.set_cons_succ, i64_w, i32_w]
        rfl
       refine pure_ (i := 27) (N := some 46) (v := ?_) (a' := ?_) #[true, true, true, true, true, true, true, true, true, true, true, true, true, true, true, true, true, true, true, true, true, true, true, true, true, true, true, true, false, false, false] rfl rfl (any_of HT_.out (by kernel_rfl)) (fun _ _ _ h => h) (Or.inl ⟨by rfl, ?_⟩) ?_ ?_
       rotate_left
       ·intro w'
        go_simp
        with_reducible rfl
       rotate_left
       ·simp only [Act.put, List.setIfInBounds_toArray, List.set_cons_zero, List.set_cons_succ, i64_w, i32_w]
        rfl
       refine one_ (i := 28) (N := some 47) #[true, true, true, true, true, true, true, true, true, true, true, true, true, true, true, true, true, true, true, true, true, true, true, true, true, true, true, true, true, false, false] rfl rfl (one_of HT_.out (by kernel_rfl)) (by decide) (fun K hK => ?_)
       refine goes_ Tryd.func26 (by kernel_rfl) rfl #[.agg #[.int .i64 t214, .int .u64 t215, .string t216, .slice Ao23 t217.length co23], .agg #[.int .i64 24, .int .u64 3, .string (⟨#[]⟩ : ByteArray), .slice Ao46 y258.length co46]] (by rfl) rfl rfl (by (try simp only [List.map_toArray, List.map_cons, List.map_nil]); first | done | rfl | (simp only [List.length_drop, List.length_take]; rfl)) ?_
       with_reducible refine (polyglotkit_SameValue.calls k t214 t215 t216 _ _ t217 24 3 (⟨#[]⟩ : ByteArray) _ _ y258 t261 _ ?side1 ?side2 ?side3 ?side4 A14.out).mono ?_
       (case side1 => repeat (first | exact (Kd.N_reads' HO219.out).2.2 | (with_reducible refine Kd.C_alloc ?_ _) | (with_reducible refine Kd.C_drewN ?_ _) | (with_reducible refine Kd.C_drew ?_)))
       (case side2 => exact (Kd.N_reads' HO219.out).2.1)
       (case side3 => repeat (first | exact (Kd.N_reads' HO260.out).2.2 | (with_reducible refine Kd.C_alloc ?_ _) | (with_reducible refine Kd.C_drewN ?_ _) | (with_reducible refine Kd.C_drew ?_)))
       (case side4 => exact (Kd.N_reads' HO260.out).2.1)
       rintro e w47 ⟨rfl, hb⟩
       refine ⟨_, rfl, ?_⟩
       have n0_ := Aside0.mk (Kd.N_below (by (with_reducible repeat (first | apply Kd.N_alloc | apply Kd.N_drewN | apply Kd.N_drew)); exact HO210.out) hb)
       have n1_ := Aside0.mk (Kd.N_below (by (with_reducible repeat (first | apply Kd.N_alloc | apply Kd.N_drewN | apply Kd.N_drew)); exact HO219.out) hb)
       have n2_ := Aside0.mk (Kd.N_below (by (with_reducible repeat (first | apply Kd.N_alloc | apply Kd.N_drewN | apply Kd.N_drew)); exact HO244.out) hb)
       have n3_ := Aside0.mk (Kd.V_below (by (with_reducible repeat (first | apply Kd.V_alloc | apply Kd.V_drewN | apply Kd.V_drew)); exact HO250.out) hb)
       have n4_ := Aside0.mk (Kd.N_below (by (with_reducible repeat (first | apply Kd.N_alloc | apply Kd.N_drewN | apply Kd.N_drew)); exact HO260.out) hb)
       have n5_ := Aside0.mk (blk_below (g := gb213) (o := .cells #[.int .i64 t205, .int .u64 t206, .string t207, .slice Ao18 t208.length co18] 25 (0, 0)) (by (with_reducible repeat (first | refine blk_drewN ?_ _ | refine blk_drew ?_ | refine blk_alloc ?_ _)); exact BK213.out) hb)
       have n6_ := Aside0.mk (blk_below (g := gb222) (o := .cells #[.int .i64 t214, .int .u64 t215, .string t216, .slice Ao23 t217.length co23] 25 (0, 0)) (by (with_reducible repeat (first | refine blk_drewN ?_ _ | refine blk_drew ?_ | refine blk_alloc ?_ _)); exact BK222.out) hb)
       have n7_ := Aside0.mk (blk_below (g := gb229) (o := .cells #[.int .i64 t223, .int .u64 t224, .string t225, .slice Ao29 t226.length co29] 25 (0, 0)) (by (with_reducible repeat (first | refine blk_drewN ?_ _ | refine blk_drew ?_ | refine blk_alloc ?_ _)); exact BK229.out) hb)
       have n8_ := Aside0.mk (below_step (by repeat (first | (with_reducible first | exact HB.out | apply below_alloc | apply pw_below_drewN | apply below_drew1 | refine below_set ?_ GE213.out | refine below_set ?_ GE222.out | refine below_set ?_ GE229.out) | exact HB.out)) hb)
       clear HO210
       clear HO219
       clear HO244
       clear HO250
       clear HO260
       clear BK213
       clear BK222
       clear BK229
       clear HB
       have HO210 := n0_
       have HO219 := n1_
       have HO244 := n2_
       have HO250 := n3_
       have HO260 := n4_
       have BK213 := n5_
       have BK222 := n6_
       have BK229 := n7_
       have HB := n8_
       clear n0_ n1_ n2_ n3_ n4_ n5_ n6_ n7_ n8_
       (try clear hb)
       (try clear hb2)
       (try clear hk)
       (try clear hi)
       refine hK.out _ _ ⟨(blk_cell BK213.out 0).trans rfl, (blk_cell BK213.out 1).trans rfl, (blk_cell BK213.out 2).trans rfl, (blk_cell BK213.out 3).trans rfl, (blk_cell BK222.out 0).trans rfl, (blk_cell BK222.out 1).trans rfl, (blk_cell BK222.out 2).trans rfl, (blk_cell BK222.out 3).trans rfl, (blk_cell BK229.out 0).trans rfl, (blk_cell BK229.out 1).trans rfl, (blk_cell BK229.out 2).trans rfl, (blk_cell BK229.out 3).trans rfl⟩ (fun hHeld => ?_)
       clear hK K
       refine norm_ (a' := ?_) ?_ ?_
       rotate_left
       ·show Act.put _ (some 47) _ = _
        simp only [Act.put, List.setIfInBounds_toArray, List.set_cons_zero, List.set_cons_succ, i64_w, i32_w]
        rfl
       refine pure_ (i := 29) (N := some 48) (v := ?_) (a' := ?_) #[true, true, true, true, true, true, true, true, true, true, true, true, true, true, true, true, true, true, true, true, true, true, true, true, true, true, true, true, true, true, false] rfl rfl (any_of HT_.out (by kernel_rfl)) (fun _ _ _ h => h) (Or.inl ⟨by rfl, ?_⟩) ?_ ?_
       rotate_left
       ·intro w'
        go_simp
        with_reducible rfl
       rotate_left
       ·simp only [Act.put, List.setIfInBounds_toArray, List.set_cons_zero, List.set_cons_succ, i64_w, i32_w]
        rfl
       refine pure_ (i := 30) (N := some 0) (v := ?_) (a' := ?_) #[true, true, true, true, true, true, true, true, true, true, true, true, true, true, true, true, true, true, true, true, true, true, true, true, true, true, true, true, true, true, true] rfl rfl (any_of HT_.out (by kernel_rfl)) (fun _ _ _ h => h) (Or.inl ⟨by rfl, ?_⟩) ?_ ?_
       rotate_left
       ·intro w'
        go_simp
        with_reducible rfl
       rotate_left
       ·simp only [Act.put, List.setIfInBounds_toArray, List.set_cons_zero, List.set_cons_succ, i64_w, i32_w]
        rfl
       refine done_ (done_of HT_.out (by kernel_rfl)) ?_
       try go_wp2
       go_ret
       exact ⟨by first | rfl | (simp [errW_none, errW_some] <;> rfl) | (simp [*, errW_none, errW_some] <;> rfl), by repeat (first | (with_reducible first | exact HB.out | apply below_alloc | apply pw_below_drewN | apply below_drew1 | refine below_set ?_ GE213.out | refine below_set ?_ GE222.out | refine below_set ?_ GE229.out) | exact HB.out)⟩
      ·replace c12 := Bool.eq_false_iff.mpr c12
       subst c12
       have H1 : (none) = some r := by rw [if_neg (show ¬ (false = true) by decide)] at H; exact H
       clear H
       have H := H1
       clear H1
       exact absurd H (by simp)
     ·rw [if_neg c7] at H
      exact absurd H (by simp)
    ·rw [if_neg c6] at H
     exact absurd H (by simp)
   ·rw [if_neg c5] at H
    exact absurd H (by simp)
  ·rw [if_neg c4] at H
   exact absurd H (by simp)
end Go.Proofs.YtekpofpgkokoiaaDoor.Q
