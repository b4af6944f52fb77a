/- A part of this claim: what its theorem leans on. -/
import Derived.Test.YtekpofpgkokoiaaDoorZQ0
import Derived.Test.YtekpofpgkokoiaaDoorZZz
import Derived.Test.YtekpofpgkokoiaaDoorZQref16bigaD
namespace Go.Proofs.YtekpofpgkokoiaaDoor.Q
open Go.RowKit Go.Proofs.YtekpofpgkokoiaaDoor.M Go.Proofs.YtekpofpgkokoiaaDoorW.PrintWords Go.Proofs.YtekpofpgkokoiaaDoorW.PrintLast Go.Proofs.YtekpofpgkokoiaaDoorW.PrintMore
attribute [local go_sem] max2_int min2_int max_two min_two max_three min_three max_four min_four
set_option linter.unusedVariables false
set_option linter.unusedSimpArgs false
def polyglotkit_OwnValue.T5 : Bool × List (List Nat × List Nat) := (true, [([], []), ([0], [0]), ([], []), ([2], [2]), ([], []), ([3, 4], [3, 4]), ([5], [5]), ([6], [6]), ([7], [7]), ([1, 8, 7], [1, 8]), ([0, 1, 2, 3, 4, 5, 6, 7, 8, 9], []), ([10, 9, 9, 0, 1, 2, 3, 4, 5, 6, 7, 8, 9], [9, 10])])
def polyglotkit_OwnValue.B5 : List Nat := [0, 1, 0, 4, 0, 28, 60, 124, 252, 511, 1023, 2047]
theorem polyglotkit_OwnValue.tab5 : rtab .any (opsOf Tryd.f42 5) = polyglotkit_OwnValue.T5 := by kernel_rfl
theorem polyglotkit_OwnValue.bits5 : waitsOk polyglotkit_OwnValue.T5.2 polyglotkit_OwnValue.B5 = true := by kernel_rfl
set_option maxHeartbeats 8000000 in
set_option maxRecDepth 100000 in
theorem polyglotkit_OwnValue.calls (k : Nat) : ∀ (a0_0 : Int) (a0_1 : Int) (a0_2 : ByteArray) (A0_3 : Option Addr) (c0_3 : Nat) (l0_3 : List (Vl)) (r1 : Int) (r2 : Int) (r3 : ByteArray) (r4 : List (Vl)) (w : World) (hr0_3 : Kd.C kV w A0_3 l0_3.length l0_3) (hc0_3 : l0_3.length ≤ c0_3) (h : polyglotkit_OwnValue.f k a0_0 a0_1 a0_2 l0_3 = some (r1, r2, r3, r4)),
    Calls Tryd.prog 42 #[.agg #[.int .i64 a0_0, .int .u64 a0_1, .string a0_2, .slice A0_3 l0_3.length c0_3]] w fun e w' => ∃ v3_ : Value, e = .returned (.agg #[.int .i64 r1, .int .u64 r2, .string r3, v3_]) ∧ Kd.R kV 25 w' w.heap.size (fun _ => True) v3_ r4 ∧ Below w.heap.size w w' := by
  induction k using Nat.strongRecOn with
  | _ k ih =>
  intro a0_0 a0_1 a0_2 A0_3 c0_3 l0_3 r1 r2 r3 r4 w hr0_3 hc0_3 h
  cases k with
  | zero => exact absurd h (by simp [polyglotkit_OwnValue.f])
  | succ k =>
  simp only [polyglotkit_OwnValue.f] at h
  have hu25 := Tryd.underlying25
  have HR0_3 := Aside0.mk hr0_3
  have HC0_3 := Aside0.mk hc0_3
  clear hr0_3 hc0_3
  have HB := Aside0.mk (Below.refl w.heap.size w)
  have H : (polyglotkit_OwnValue.l0 k 0 a0_0 a0_1 a0_2 l0_3 a0_0 a0_1 a0_2 ([] : List (Vl))) = some (r1, r2, r3, r4) := h
  clear h
  have H' := Aside0.mk H
  clear H
  go_enter Tryd.func42, Tryd.ntmps42
  go_wp2_with (first | ((with_reducible refine gate_dst (N := 1) rfl ?_); refine box_event rfl (N := 1) rfl (cs := #[.int .i64 a0_0, .int .u64 a0_1, .string a0_2, .slice A0_3 l0_3.length c0_3]) (t := 25) zh ?_; intro gb893 hg w2 hbox hb; have BK893 := Aside0.mk (hbox); have GW893 := Aside0.mk ((zge (w := w) hg)); have GE893 := Aside0.mk ((zge (w := w) hg)); replace HB := Aside0.mk (below_step zb hb); clear hb hbox hg) | ((with_reducible refine gate_dst (N := 2) rfl ?_); refine box_event rfl (N := 2) rfl (cs := #[.int .i64 0, .int .u64 0, .string (⟨#[]⟩ : ByteArray), .slice none 0 0]) (t := 25) zh ?_; intro gb894 hg w3 hbox hb; have BK894 := Aside0.mk (hbox); have GW894 := Aside0.mk ((zge (w := w) hg)); have GE894 := Aside0.mk ((zge (w := w) hg)); have NB893_894 := Aside0.mk ((znl BK893.out hg)); have NB894_893 := Aside0.mk ((zng BK893.out hg)); replace BK893 := Aside0.mk (zbb BK893.out hb); replace HB := Aside0.mk (below_step zb hb); clear hb hbox hg; have hnb4 := NB893_894.out; have hnc4 := NB894_893.out; obtain ⟨hcz5_0, hcz5_1, hcz5_2, hcz5_3, hfz5_0, hfz5_1, hfz5_2, hfz5_3⟩ := cz4 BK893.out) | ((with_reducible refine gate_dst (N := 3) rfl ?_); refine box_event rfl (N := 3) rfl (cs := #[.int .i64 0, .int .u64 0, .string (⟨#[]⟩ : ByteArray), .slice none 0 0]) (t := 25) zh ?_; intro gb895 hg w6 hbox hb; have BK895 := Aside0.mk (hbox); have GW895 := Aside0.mk ((zge (w := w) hg)); have GE895 := Aside0.mk ((zge (w := w) hg)); have NB893_895 := Aside0.mk ((znl BK893.out hg)); have NB895_893 := Aside0.mk ((zng BK893.out hg)); replace BK893 := Aside0.mk (zbb BK893.out hb); have NB894_895 := Aside0.mk ((znl BK894.out hg)); have NB895_894 := Aside0.mk ((zng BK894.out hg)); replace BK894 := Aside0.mk (zbb BK894.out hb); replace HB := Aside0.mk (below_step zb hb); clear hb hbox hg; have hnb7 := NB895_893.out; have hnc7 := NB893_895.out; have hnb8 := NB895_894.out; have hnc8 := NB894_895.out; obtain ⟨hcz9_0, hcz9_1, hcz9_2, hcz9_3, hfz9_0, hfz9_1, hfz9_2, hfz9_3⟩ := cz4 BK895.out))
  go_loopg [4] k (fun kq v4 w' => ∃ (x4_1 : Int) (x896003_1 : List (Vl)) (u896003 : Value), v4 = .int .i64 x4_1 ∧ Aside0 (polyglotkit_OwnValue.l0 kq x4_1 a0_0 a0_1 a0_2 l0_3 a0_0 a0_1 a0_2 x896003_1 = some (r1, r2, r3, r4)) ∧ Aside0 (kq ≤ k) ∧ Aside0 (Kd.R kV 25 w' w.heap.size (fun k_ => k_ ≠ gb893 ∧ k_ ≠ gb894 ∧ k_ ≠ gb895) u896003 x896003_1) ∧ Aside0 (w'.heap[gb893]? = some (.cells #[.int .i64 a0_0, .int .u64 a0_1, .string a0_2, (.slice A0_3 l0_3.length c0_3)] 25 (0, 0))) ∧ Aside0 (w'.heap[gb894]? = some (.cells #[.int .i64 0, .int .u64 0, .string (⟨#[]⟩ : ByteArray), (.slice none 0 0)] 25 (0, 0))) ∧ Aside0 (w'.heap[gb895]? = some (.cells #[.int .i64 a0_0, .int .u64 a0_1, .string a0_2, u896003] 25 (0, 0))) ∧ Aside0 (Below w.heap.size w w'))
  case atStart => exact ⟨(0), (([] : List (Vl))), (.slice none 0 0), zt, H', ⟨Nat.le_refl _⟩, ⟨zn⟩, ⟨zk BK893.out⟩, ⟨zk BK894.out⟩, ⟨zp4 BK895.out _ _ _ _⟩, ⟨zb⟩⟩
  case round =>
   clear H'
   try clear hcz5_0
   try clear hcz5_1
   try clear hcz5_2
   try clear hcz5_3
   try clear hcz9_0
   try clear hcz9_1
   try clear hcz9_2
   try clear hcz9_3
   try clear hfz5_0
   try clear hfz5_1
   try clear hfz5_2
   try clear hfz5_3
   try clear hfz9_0
   try clear hfz9_1
   try clear hfz9_2
   try clear hfz9_3
   obtain ⟨x4_1, x896003_1, u896003, rfl, HA, HK1, HO_896003, BK893, BK894, BK895, HB⟩ := hrel
   cases gk with
   | zero => exact absurd HA.out (by simp [polyglotkit_OwnValue.l0])
   | succ k1 =>
    have H := HA.out
    clear HA
    simp only [polyglotkit_OwnValue.l0] at H
    by_cases c10 : x4_1 < (l0_3.length : Int)
    ·rw [if_pos c10] at H
     have c10b0 : decide (x4_1 < (l0_3.length : Int)) = true := decide_eq_true c10
     clear c10
     by_cases c11 : 0 ≤ x4_1
     ·rw [if_pos c11] at H
      have c11b0 : decide (0 ≤ x4_1) = true := decide_eq_true c11
      clear c11
      obtain ⟨⟨t897, t898, t899, t900⟩, A12, H⟩ := zbd H
      dsimp only at H
      by_cases c13 : x896003_1.length < 2513169434916
      ·rw [if_pos c13] at H
       have LMc13 := Aside0.mk c13
       clear c13
       obtain ⟨y903, hy903⟩ : ∃ y_ : List (Vl), y_ = (x896003_1 ++ [(⟨t897, t898, t899, t900⟩ : Vl)]) := ⟨_, rfl⟩
       replace H : (polyglotkit_OwnValue.l0 k1 (wrap64 (x4_1 + 1)) a0_0 a0_1 a0_2 l0_3 a0_0 a0_1 a0_2 y903) = some (r1, r2, r3, r4) := by first | (rw [hy903]; with_reducible exact H) | (have H2_ := (Option.bind_some _ _).symm.trans H; rw [hy903]; with_reducible exact H2_) | (have H2_ := (Option.bind_some _ _).symm.trans H; with_reducible exact H2_) | with_reducible exact H | (rw [hy903]; exact H) | exact H
       have Ny903 := Aside0.mk hy903
       clear hy903
       have H' := Aside0.mk H
       clear H
       have hnb14 := NB893_894.out
       have hnc14 := NB894_893.out
       have hnb15 := NB893_895.out
       have hnc15 := NB895_893.out
       obtain ⟨hcz16_0, hcz16_1, hcz16_2, hcz16_3, hfz16_0, hfz16_1, hfz16_2, hfz16_3⟩ := cz4 BK893.out
       try go_wp2
       have n0_ := Aside0.mk (Kd.R_drew HO_896003.out)
       have n1_ := Aside0.mk (blk_drew BK893.out)
       have n2_ := Aside0.mk (blk_drew BK894.out)
       have n3_ := Aside0.mk (blk_drew BK895.out)
       have n4_ := Aside0.mk (below_drew1 HB.out)
       clear HO_896003
       clear BK893
       clear BK894
       clear BK895
       clear HB
       have HO_896003 := n0_
       have BK893 := n1_
       have BK894 := n2_
       have BK895 := n3_
       have HB := n4_
       clear n0_ n1_ n2_ n3_ n4_
       have p896 : 0 ≤ (x4_1 : Int) := of_decide_eq_true (by first | (with_reducible assumption) | assumption)
       have q896 : x4_1 < (l0_3.length : Int) := of_decide_eq_true (by first | (with_reducible assumption) | assumption)
       obtain ⟨ad896, A896_3, c896_3, e896, hx896_0, hx896_1, hx896_2, hx896_3, hl896_3, hi896_3⟩ := atV HR0_3.out x4_1 p896 q896
       have hw896_3 := hx896_3
       have hw896_2 := hx896_2
       have hw896_1 := hx896_1
       have hw896_0 := hx896_0
       cases e896
       replace hx896_0 := (HB.out.cell (World.block_lt_of_cell? w _ hx896_0)).trans hx896_0
       replace hx896_1 := (HB.out.cell (World.block_lt_of_cell? w _ hx896_1)).trans hx896_1
       replace hx896_2 := (HB.out.cell (World.block_lt_of_cell? w _ hx896_2)).trans hx896_2
       replace hx896_3 := (HB.out.cell (World.block_lt_of_cell? w _ hx896_3)).trans hx896_3
       have HR896_3 := Aside0.mk hi896_3
       have HC896_3 := Aside0.mk hl896_3
       clear hi896_3 hl896_3
       replace p896 := eq_true p896
       replace q896 := eq_true q896
       refine start_ (n := 12) (S := fun w' => w'.cell? ⟨gb895, 0, none⟩ = some (.int .i64 a0_0) ∧ w'.cell? ⟨gb895, 1, none⟩ = some (.int .u64 a0_1) ∧ w'.cell? ⟨gb895, 2, none⟩ = some (.string a0_2) ∧ w'.cell? ⟨gb895, 3, none⟩ = some (u896003) ∧ w'.cell? ⟨gb893, 0, none⟩ = some (.int .i64 a0_0) ∧ w'.cell? ⟨gb893, 1, none⟩ = some (.int .u64 a0_1) ∧ w'.cell? ⟨gb893, 2, none⟩ = some (.string a0_2) ∧ w'.cell? ⟨gb893, 3, none⟩ = some (.slice (some ad896) l0_3.length c0_3) ∧ w'.cell? (ad896.add ((x4_1).toNat * 4)) = some (.int .i64 ((rdV l0_3 x4_1).kind)) ∧ w'.cell? ⟨(ad896.add ((x4_1).toNat * 4)).block, (ad896.add ((x4_1).toNat * 4)).off + 1, none⟩ = some (.int .u64 ((rdV l0_3 x4_1).n)) ∧ w'.cell? ⟨(ad896.add ((x4_1).toNat * 4)).block, (ad896.add ((x4_1).toNat * 4)).off + 2, none⟩ = some (.string ((rdV l0_3 x4_1).text)) ∧ w'.cell? ⟨(ad896.add ((x4_1).toNat * 4)).block, (ad896.add ((x4_1).toNat * 4)).off + 3, none⟩ = some (.slice A896_3 ((rdV l0_3 x4_1).items).length c896_3)) (ds := [11]) (bm 12 0) (by kernel_rfl) rfl rfl ⟨(blk_cell BK895.out 0).trans rfl, (blk_cell BK895.out 1).trans rfl, (blk_cell BK895.out 2).trans rfl, (blk_cell BK895.out 3).trans rfl, (blk_cell BK893.out 0).trans rfl, (blk_cell BK893.out 1).trans rfl, (blk_cell BK893.out 2).trans rfl, (blk_cell BK893.out 3).trans rfl, ((HB.out.cell (World.block_lt_of_cell? w _ hw896_0)).trans hw896_0), ((HB.out.cell (World.block_lt_of_cell? w _ hw896_1)).trans hw896_1), ((HB.out.cell (World.block_lt_of_cell? w _ hw896_2)).trans hw896_2), ((HB.out.cell (World.block_lt_of_cell? w _ hw896_3)).trans hw896_3)⟩ (fun hHeld => ?_); refine with_tabW polyglotkit_OwnValue.tab5 polyglotkit_OwnValue.bits5 (fun HT_ HW_ => ?_)
       generalize wr.drew = w17 at HO_896003 BK893 BK894 BK895 HB HR896_3 hx896_0 hx896_1 hx896_2 hx896_3 hHeld ⊢
       refine pu 0 (some 19) (bm 12 1) (h := ?_)
       refine pu 2 (some 21) (bm 12 5) (h := ?_)
       refine pu 4 (some 23) (bm 12 21) (h := ?_)
       refine tk 1 (some 20) (bm 12 23) hHeld (h := ?_)
       refine tk 3 (some 22) (bm 12 31) hHeld (h := ?_)
       refine pu 5 (some 24) (bm 12 63) (h := ?_)
       refine tk 6 (some 25) (bm 12 127) hHeld (h := ?_)
       refine one_ (i := 7) (N := some 26) (bm 12 255) rfl rfl (one_of HT_.out (by kernel_rfl)) (by decide) (fun K hK => ?_)
       refine goes_ Tryd.func42 (by kernel_rfl) rfl #[.agg #[.int .i64 ((rdV l0_3 x4_1).kind), .int .u64 ((rdV l0_3 x4_1).n), .string ((rdV l0_3 x4_1).text), .slice A896_3 ((rdV l0_3 x4_1).items).length c896_3]] (by rfl) rfl rfl za ?_
       with_reducible refine (ih k1 (by have := HK1.out; omega) ((rdV l0_3 x4_1).kind) ((rdV l0_3 x4_1).n) ((rdV l0_3 x4_1).text) _ _ ((rdV l0_3 x4_1).items) t897 t898 t899 t900 _ ?side1 ?side2 A12.out).mono ?_
       (case side1 => repeat (first | exact (Kd.C_below HR896_3.out HB.out) | (with_reducible refine Kd.C_alloc ?_ _) | (with_reducible refine Kd.C_drewN ?_ _) | (with_reducible refine Kd.C_drew ?_)))
       (case side2 => exact HC896_3.out)
       rintro e w18 ⟨v901, rfl, ho0, hb⟩
       refine ⟨_, rfl, ?_⟩
       have n0_ := Aside0.mk (Kd.R_elder' (zr HO_896003.out) (Kd.R_base ho0) hb)
       have n1_ := Aside0.mk (Kd.R_lower (Kd.R_newB (Kd.R_newB (Kd.R_newB (Kd.R_new' ho0 (Kd.R_lt (zr HO_896003.out))) (g := gb893) (o := .cells #[.int .i64 a0_0, .int .u64 a0_1, .string a0_2, .slice (some ad896) l0_3.length c0_3] 25 (0, 0)) (zk BK893.out)) (g := gb894) (o := .cells #[.int .i64 0, .int .u64 0, .string (⟨#[]⟩ : ByteArray), .slice none 0 0] 25 (0, 0)) (zk BK894.out)) (g := gb895) (o := .cells #[.int .i64 a0_0, .int .u64 a0_1, .string a0_2, u896003] 25 (0, 0)) (zk BK895.out)) (below_size zb))
       have n2_ := Aside0.mk (zbb BK893.out hb)
       have n3_ := Aside0.mk (zbb BK894.out hb)
       have n4_ := Aside0.mk (zbb BK895.out hb)
       have n5_ := Aside0.mk (below_step zb hb)
       clear HO_896003
       clear BK893
       clear BK894
       clear BK895
       clear HB
       have HO_896003 := n0_
       have HO902 := n1_
       have BK893 := n2_
       have BK894 := n3_
       have BK895 := n4_
       have HB := n5_
       clear n0_ n1_ n2_ n3_ n4_ n5_
       (try clear hb)
       (try clear hb2)
       (try clear hk)
       (try clear hi)
       (try clear ho0)
       obtain ⟨Ao20, co20, eo20⟩ := Kd.R_slice HO902.out
       (first | subst eo20 | (injection eo20 with f1_ f2_ f3_; have f4_ := f1_.symm; have f5_ := f3_.symm; clear f1_ f2_ f3_; subst f4_; subst f5_))
       refine hK.out _ _ ⟨(blk_cell BK895.out 0).trans rfl, (blk_cell BK895.out 1).trans rfl, (blk_cell BK895.out 2).trans rfl, (blk_cell BK895.out 3).trans rfl, (blk_cell BK893.out 0).trans rfl, (blk_cell BK893.out 1).trans rfl, (blk_cell BK893.out 2).trans rfl, (blk_cell BK893.out 3).trans rfl, ((HB.out.cell (World.block_lt_of_cell? w _ hw896_0)).trans hw896_0), ((HB.out.cell (World.block_lt_of_cell? w _ hw896_1)).trans hw896_1), ((HB.out.cell (World.block_lt_of_cell? w _ hw896_2)).trans hw896_2), ((HB.out.cell (World.block_lt_of_cell? w _ hw896_3)).trans hw896_3)⟩ (fun hHeld => ?_)
       clear hK K
       refine norm_ (a' := ?_) ?_ ?_
       rotate_left
       ·show Act.put _ (some 26) _ = _
        simp only [Act.put, List.setIfInBounds_toArray, List.set_cons_zero, List.set_cons_succ, i64_w, i32_w]
        rfl
       refine one_ (i := 8) (N := some 27) (bm 12 511) rfl rfl (one_of HT_.out (by kernel_rfl)) (by decide) (fun K hK => ?_)
       refine value_ (w1 := ?_) (v := ?_) (by rfl) rfl ?_ ?_
       rotate_left 2
       ·go_simp
        constructor
        ·rfl
        ·rfl
       refine hK.out _ _ ⟨(blk_cell (blk_alloc BK895.out _) 0).trans rfl, (blk_cell (blk_alloc BK895.out _) 1).trans rfl, (blk_cell (blk_alloc BK895.out _) 2).trans rfl, (blk_cell (blk_alloc BK895.out _) 3).trans rfl, (blk_cell (blk_alloc BK893.out _) 0).trans rfl, (blk_cell (blk_alloc BK893.out _) 1).trans rfl, (blk_cell (blk_alloc BK893.out _) 2).trans rfl, (blk_cell (blk_alloc BK893.out _) 3).trans rfl, (World.cell?_alloc_lt _ _ _ (World.block_lt_of_cell? _ _ (((HB.out.cell (World.block_lt_of_cell? w _ hw896_0)).trans hw896_0)))).trans (((HB.out.cell (World.block_lt_of_cell? w _ hw896_0)).trans hw896_0)), (World.cell?_alloc_lt _ _ _ (World.block_lt_of_cell? _ _ (((HB.out.cell (World.block_lt_of_cell? w _ hw896_1)).trans hw896_1)))).trans (((HB.out.cell (World.block_lt_of_cell? w _ hw896_1)).trans hw896_1)), (World.cell?_alloc_lt _ _ _ (World.block_lt_of_cell? _ _ (((HB.out.cell (World.block_lt_of_cell? w _ hw896_2)).trans hw896_2)))).trans (((HB.out.cell (World.block_lt_of_cell? w _ hw896_2)).trans hw896_2)), (World.cell?_alloc_lt _ _ _ (World.block_lt_of_cell? _ _ (((HB.out.cell (World.block_lt_of_cell? w _ hw896_3)).trans hw896_3)))).trans (((HB.out.cell (World.block_lt_of_cell? w _ hw896_3)).trans hw896_3))⟩ (fun hHeld => ?_)
       clear hK K
       refine norm_ (a' := ?_) ?_ ?_
       rotate_left
       ·show Act.put _ (some 27) _ = _
        simp only [Act.put, List.setIfInBounds_toArray, List.set_cons_zero, List.set_cons_succ, i64_w, i32_w]
        rfl
       refine one_ (i := 9) (N := some 28) (bm 12 1023) rfl rfl (one_of HT_.out (by kernel_rfl)) (by decide) (fun K hK => ?_)
       refine Kd.R_append_step kV (w0 := w) w.heap.size (by rfl) (.tmp 20) (.tmp 27) 23 25 (.agg #[(.int .i64 0), (.int .u64 0), (.string ⟨#[]⟩), (.slice none 0 0)]) 56 rfl Tryd.underlying23 infoV rfl (by decide) (by omega) u896003 x896003_1 (⟨t897, t898, t899, t900⟩ : Vl) [.int .i64 t897, .int .u64 t898, .string t899, .slice Ao20 t900.length co20] (fun k_ => k_ ≠ gb893 ∧ k_ ≠ gb894 ∧ k_ ≠ gb895) (fun k_ => ((fun k_ => k_ ≠ gb893 ∧ k_ ≠ gb894 ∧ k_ ≠ gb895)) k_ ∧ some k_ ≠ (u896003 : Value).ownBlock) rfl rfl ?aP (fun _ hk => hk) ?aF ?aO ?aB ?aS ?aL ?_
       (case aP => exact kV_mkM _ _ _ (⟨t897, t898, t899, t900⟩ : Vl) (Kd.R_mono (HO902.out) (fun k_ hk => ⟨⟨hk.1.1.2, ⟨hk.1.2, hk.2⟩⟩, hk.1.1.1.2⟩)))
       (case aB => exact zb)
       (case aF => exact (fun k_ hk => ⟨Kd.freshB (g := gb893) (o := .cells #[.int .i64 a0_0, .int .u64 a0_1, .string a0_2, .slice (some ad896) l0_3.length c0_3] 25 (0, 0)) (zk BK893.out) k_ hk, Kd.freshB (g := gb894) (o := .cells #[.int .i64 0, .int .u64 0, .string (⟨#[]⟩ : ByteArray), .slice none 0 0] 25 (0, 0)) (zk BK894.out) k_ hk, Kd.freshB (g := gb895) (o := .cells #[.int .i64 a0_0, .int .u64 a0_1, .string a0_2, u896003] 25 (0, 0)) (zk BK895.out) k_ hk⟩))
       (case aO => exact (by (with_reducible repeat (first | apply Kd.R_alloc | apply Kd.R_drewN | apply Kd.R_drew)); exact Kd.R_mono HO_896003.out (fun _ hk => ⟨hk.1.1, ⟨hk.1.2.1, hk.1.2.2⟩⟩)))
       (case aS => exact (below_size zb))
       (case aL => have := LMc13.out; omega)
       intro v904 w19 ho hb hg hat
       rw [← Ny903.out] at ho
       have n0_ := Aside0.mk (blk_grown (g := gb893) (o := .cells #[.int .i64 a0_0, .int .u64 a0_1, .string a0_2, .slice (some ad896) l0_3.length c0_3] 25 (0, 0)) (zk BK893.out) hg (Kd.R_away HO_896003.out (fun _ hk => hk.1.1)))
       have n1_ := Aside0.mk (blk_grown (g := gb894) (o := .cells #[.int .i64 0, .int .u64 0, .string (⟨#[]⟩ : ByteArray), .slice none 0 0] 25 (0, 0)) (zk BK894.out) hg (Kd.R_away HO_896003.out (fun _ hk => hk.1.2.1)))
       have n2_ := Aside0.mk (blk_grown (g := gb895) (o := .cells #[.int .i64 a0_0, .int .u64 a0_1, .string a0_2, u896003] 25 (0, 0)) (zk BK895.out) hg (Kd.R_away HO_896003.out (fun _ hk => hk.1.2.2)))
       have n3_ := Aside0.mk (hb)
       have n4_ := Aside0.mk (ho)
       clear BK893
       clear BK894
       clear BK895
       clear HB
       clear HO_896003
       clear HO902
       have BK893 := n0_
       have BK894 := n1_
       have BK895 := n2_
       have HB := n3_
       have HO905 := n4_
       clear n0_ n1_ n2_ n3_ n4_
       clear ho hb hg hat
       obtain ⟨Ao21, co21, eo21⟩ := Kd.R_slice HO905.out
       (first | subst eo21 | (injection eo21 with f1_ f2_ f3_; have f4_ := f1_.symm; have f5_ := f3_.symm; clear f1_ f2_ f3_; subst f4_; subst f5_))
       refine hK.out _ _ ⟨(blk_cell BK895.out 0).trans rfl, (blk_cell BK895.out 1).trans rfl, (blk_cell BK895.out 2).trans rfl, (blk_cell BK895.out 3).trans rfl, (blk_cell BK893.out 0).trans rfl, (blk_cell BK893.out 1).trans rfl, (blk_cell BK893.out 2).trans rfl, (blk_cell BK893.out 3).trans rfl, ((HB.out.cell (World.block_lt_of_cell? w _ hw896_0)).trans hw896_0), ((HB.out.cell (World.block_lt_of_cell? w _ hw896_1)).trans hw896_1), ((HB.out.cell (World.block_lt_of_cell? w _ hw896_2)).trans hw896_2), ((HB.out.cell (World.block_lt_of_cell? w _ hw896_3)).trans hw896_3)⟩ (fun hHeld => ?_)
       clear hK K
       refine norm_ (a' := ?_) ?_ ?_
       rotate_left
       ·show Act.put _ (some 28) _ = _
        simp only [Act.put, List.setIfInBounds_toArray, List.set_cons_zero, List.set_cons_succ, i64_w, i32_w]
        rfl
       refine pu 10 (some 29) (bm 12 2047) (h := ?_)
       refine last_ (i := 11) (N := none) (bm 12 4095) rfl rfl (one_of HT_.out (by kernel_rfl)) (by decide) (fun K hK => ?_)
       have hs22 : w19.cell? ⟨gb895, 3, none⟩ = some (u896003) := (blk_cell BK895.out 3).trans rfl
       have hfs22 := blk_frozen BK895.out 3
       have hns22_0 := NB893_895.out
       have hns22_1 := NB894_895.out
       have hms22_0 := NB895_893.out
       have hms22_1 := NB895_894.out
       refine skip_ (w1 := ?_) (by rfl) rfl ?_ ?_
       rotate_left
       ·go_simp
        rfl
       refine hK.out _ _ ?_
       clear hK K
       refine done_ (done_of HT_.out (by kernel_rfl)) ?_
       try go_wp2
       go_roundg k1
       case measure => have := HK1.out; omega
       case rel => exact ⟨(wrap64 (x4_1 + 1)), (y903), (.slice Ao21 y903.length co21), zt, H', ⟨by have := HK1.out; omega⟩, ⟨by (with_reducible repeat (first | apply Kd.R_alloc | apply Kd.R_drewN | apply Kd.R_drew)); exact Kd.R_mono (Kd.R_far (p := ⟨gb895, 3, none⟩) (Kd.R_mono HO905.out (fun k_ hk => (⟨hk, hk.2.2⟩ : _ ∧ k_ ≠ gb895))) (fun _ hk => hk.2) (.slice Ao21 y903.length co21)) (fun _ hk => ⟨hk.1.1, ⟨hk.1.2.1, hk.1.2.2⟩⟩)⟩, ⟨zk BK893.out⟩, ⟨zk BK894.out⟩, ⟨by (with_reducible repeat (first | refine blk_drewN ?_ _ | refine blk_drew ?_ | refine blk_alloc ?_ _)); refine blk_put (cs := #[.int .i64 a0_0, .int .u64 a0_1, .string a0_2, u896003]) ?_ 3 _ rfl; exact zk BK895.out⟩, ⟨zb⟩⟩
      ·rw [if_neg c13] at H
       exact absurd H (by simp)
     ·rw [if_neg c11] at H
      exact absurd H (by simp)
    ·rw [if_neg c10] at H
     have c10b0 : decide (x4_1 < (l0_3.length : Int)) = false := decide_eq_false c10
     clear c10
     simp only [Option.some.injEq, Prod.mk.injEq] at H
     obtain ⟨rfl, rfl, rfl, rfl⟩ := H
     have hnb23 := NB893_894.out
     have hnc23 := NB894_893.out
     have hnb24 := NB893_895.out
     have hnc24 := NB895_893.out
     obtain ⟨hcz25_0, hcz25_1, hcz25_2, hcz25_3, hfz25_0, hfz25_1, hfz25_2, hfz25_3⟩ := cz4 BK893.out
     have hnb26 := NB895_894.out
     have hnc26 := NB894_895.out
     obtain ⟨hcz27_0, hcz27_1, hcz27_2, hcz27_3, hfz27_0, hfz27_1, hfz27_2, hfz27_3⟩ := cz4 BK895.out
     obtain ⟨hcz28_0, hcz28_1, hcz28_2, hcz28_3, hfz28_0, hfz28_1, hfz28_2, hfz28_3⟩ := cz4 BK894.out
     obtain ⟨Ao29, co29, eo29⟩ := Kd.R_slice HO_896003.out
     subst eo29
     go_wp2
     refine bodyPost_ret (results_cell_row rfl _ _ gb894 25 #[.int .i64 a0_0, .int .u64 a0_1, .string a0_2, .slice Ao29 x896003_1.length co29] (0, 0) _ rfl (zp4 BK894.out _ _ _ _) Tryd.underlying25 rfl (by kernel_rfl)) rfl ?_
     exact ⟨_, ze, by (with_reducible repeat (first | apply Kd.R_alloc | apply Kd.R_drewN | apply Kd.R_drew)); exact Kd.R_mono (Kd.R_far (p := ⟨gb894, 3, none⟩) (Kd.R_far (p := ⟨gb894, 2, none⟩) (Kd.R_far (p := ⟨gb894, 1, none⟩) (Kd.R_far (p := ⟨gb894, 0, none⟩) (Kd.R_mono HO_896003.out (fun k_ hk => (⟨hk, hk.2.1⟩ : _ ∧ k_ ≠ gb894))) (fun _ hk => hk.2) (.int .i64 a0_0)) (fun _ hk => hk.2) (.int .u64 a0_1)) (fun _ hk => hk.2) (.string a0_2)) (fun _ hk => hk.2) (.slice Ao29 x896003_1.length co29)) (fun _ hk => trivial), zb⟩
end Go.Proofs.YtekpofpgkokoiaaDoor.Q
