/- A part of this claim: what its theorem leans on. -/
import Derived.Test.YtekpofpgkokoiaaDoorZVs
set_option linter.unusedVariables false
set_option linter.unusedSimpArgs false
namespace Go.Proofs.YtekpofpgkokoiaaDoor.M
open Go.RowKit Go.Proofs.YtekpofpgkokoiaaDoorW.PrintWords Go.Proofs.YtekpofpgkokoiaaDoorW.PrintLast Go.Proofs.YtekpofpgkokoiaaDoorW.PrintMore
theorem seqE_err {f : Bs → Rd} : ∀ (j : Nat) (l : Bs) (xs : List Vl) (p : Nat) (x : Int), seqE f j l = .ok (xs, p) → f (l.drop p) = .error x → ∀ n, j < n → seqE f n l = .error x
  | 0, l, xs, p, x, h, hx, n, hn => by
    obtain ⟨n, rfl⟩ : ∃ q, n = q + 1 := ⟨n - 1, by omega⟩
    cases h
    rw [List.drop_zero] at hx
    unfold seqE
    rw [hx]
  | j + 1, l, xs, p, x, h, hx, n, hn => by
    obtain ⟨n, rfl⟩ : ∃ q, n = q + 1 := ⟨n - 1, by omega⟩
    unfold seqE at h ⊢
    cases h1 : f l with
    | error e => rw [h1] at h; cases h
    | ok r =>
      obtain ⟨v, k⟩ := r
      rw [h1] at h
      dsimp only at h ⊢
      cases h2 : seqE f j (l.drop k) with
      | error e => rw [h2] at h; cases h
      | ok q =>
        obtain ⟨ys, i⟩ := q
        rw [h2] at h
        cases h
        rw [← List.drop_drop] at hx
        rw [seqE_err j _ _ _ x h2 hx n (by omega)]
theorem seqE_ok {f : Bs → Rd} : ∀ (j : Nat) (l : Bs) (xs : List Vl) (p : Nat) (v : Vl) (k : Nat), seqE f j l = .ok (xs, p) → f (l.drop p) = .ok (v, k) → seqE f (j + 1) l = .ok (xs ++ [v], p + k)
  | 0, l, xs, p, v, k, h, hx => by
    cases h
    rw [List.drop_zero] at hx
    unfold seqE
    rw [hx]
    show Except.ok ([v], k + 0) = _
    simp
  | j + 1, l, xs, p, v, k, h, hx => by
    unfold seqE at h ⊢
    cases h1 : f l with
    | error e => rw [h1] at h; cases h
    | ok r =>
      obtain ⟨v0, k0⟩ := r
      rw [h1] at h
      dsimp only at h ⊢
      cases h2 : seqE f j (l.drop k0) with
      | error e => rw [h2] at h; cases h
      | ok q =>
        obtain ⟨ys, i⟩ := q
        rw [h2] at h
        cases h
        rw [← List.drop_drop] at hx
        rw [seqE_ok j _ _ _ v k h2 hx]
        simp [Nat.add_assoc]
theorem keepS {W : World} {q b : Nat} {a0 a1 a2 a3 x y : Value} {ty tz : TypeId} (h4 : W.heap[q]? = some (.cells #[a0, a1, a2, a3] ty (0, 0))) (hb : W.heap[b]? = some (.cells #[x, y] tz (0, 0))) (hne : b ≠ q) (v0 v1 v2 v3 : Value) :
    ((((W.setCell ⟨q, 0, none⟩ v0).setCell ⟨q, 1, none⟩ v1).setCell ⟨q, 2, none⟩ v2).setCell ⟨q, 3, none⟩ v3).cell? ⟨q, 0, none⟩ = some v0 ∧ ((((W.setCell ⟨q, 0, none⟩ v0).setCell ⟨q, 1, none⟩ v1).setCell ⟨q, 2, none⟩ v2).setCell ⟨q, 3, none⟩ v3).cell? ⟨q, 1, none⟩ = some v1 ∧
    ((((W.setCell ⟨q, 0, none⟩ v0).setCell ⟨q, 1, none⟩ v1).setCell ⟨q, 2, none⟩ v2).setCell ⟨q, 3, none⟩ v3).cell? ⟨q, 2, none⟩ = some v2 ∧ ((((W.setCell ⟨q, 0, none⟩ v0).setCell ⟨q, 1, none⟩ v1).setCell ⟨q, 2, none⟩ v2).setCell ⟨q, 3, none⟩ v3).cell? ⟨q, 3, none⟩ = some v3 ∧
    ((((W.setCell ⟨q, 0, none⟩ v0).setCell ⟨q, 1, none⟩ v1).setCell ⟨q, 2, none⟩ v2).setCell ⟨q, 3, none⟩ v3).cell? ⟨b, 0, none⟩ = some x :=
  ⟨blk_cell (put4 h4 v0 v1 v2 v3) 0, blk_cell (put4 h4 v0 v1 v2 v3) 1, blk_cell (put4 h4 v0 v1 v2 v3) 2, blk_cell (put4 h4 v0 v1 v2 v3) 3, blk_cell (blk_far (blk_far (blk_far (blk_far hb hne _) hne _) hne _) hne _) 0⟩
def DRel (m : Nat) (s : ByteArray) (w : World) (g gb : Nat) (j : Nat) (wr : World) (xs : List Vl) (p : Nat) (A : Option Addr) (c : Nat) : Prop :=
  (p ≤ s.size ∧ seqE (readE (dataE m)) j s.data.toList = .ok (xs, p)) ∧ Q.IsS141 w wr g s p 0 ∧ Below w.heap.size w wr ∧ wr.heap[w.heap.size]? = some (Obj.cells #[.int .i64 25, .int .u64 0, .string ⟨#[]⟩, .slice A xs.length c] 25 (0, 0)) ∧
  wr.heap[gb]? = some (Obj.cells #[.pointer (some ⟨g, 0, none⟩), .int .i64 m] 144 (0, 0)) ∧ Kd.R kV 25 wr w.heap.size (fun k => k ≠ w.heap.size ∧ k ≠ g ∧ k ≠ gb) (.slice A xs.length c) xs
set_option maxRecDepth 100000 in
set_option maxHeartbeats 4000000 in
theorem described_calls (m : Nat) (hm : m + 1 ≤ 32)
    (HV : ∀ (code : Int) (t : ByteArray) (p g : Nat), p ≤ t.size → t.size ≤ 140737488351232 → ∀ w0 w, Tb w0 → Q.IsS141 w0 w g t p 0 → Below w0.heap.size w0 w → Calls Tryd.prog 145 #[.agg #[.pointer (some ⟨g, 0, none⟩), .int .i64 m], .int .i64 code] w fun e w' => VlPost w0 w g t p (valE m code (t.data.toList.drop p)) e w')
    (s : ByteArray) (hs : s.size ≤ 140737488351232) (w : World) (hT : Tb w) :
    Calls Tryd.prog 112 #[.string s, .int .i64 (m + 1 : Nat)] w fun e w' => RdPost w (descE (dataE m) s.data.toList) e w' := by
  have HT := Lib.hid hT
  have HHV := Lib.hid HV
  clear hT HV
  have hsub : wrap64 (((m + 1 : Nat) : Int) - 1) = (m : Int) := by unfold wrap64; omega
  have hsub2 : IntKind.i64.wrap (((m + 1 : Nat) : Int) - 1) = (m : Int) := by simp [IntKind.wrap, IntKind.bits, IntKind.signed]; omega
  go_enter Tryd.func112, Tryd.ntmps112
  go_wp2_with fail
  refine (Q.octet_New.calls s s 0 0 (w.alloc _) (w.alloc _) (Below.refl _ _) rfl).mono ?_
  rintro e w1 ⟨g, rfl, hi, hx, hb⟩
  have HB1 := Lib.hid (below_step (below_new _ _) hb)
  have BK4 := Lib.hid (blk_below (blk_new w (Obj.cells #[Value.int IntKind.i64 0, Value.int IntKind.u64 0, Value.string ⟨#[]⟩, Value.slice none 0 0] 25)) hb)
  have hgw : w.heap.size < g := by
    have := hi.ge
    rw [show (w.alloc (Obj.cells #[Value.int IntKind.i64 0, Value.int IntKind.u64 0, Value.string ⟨#[]⟩, Value.slice none 0 0] 25)).heap.size = w.heap.size + 1 by simp] at this
    omega
  have hgl := hi.lt
  have HI1 : Hid (Q.IsS141 w w1 g s 0 0) := Lib.hid ⟨hi.1, Nat.le_of_lt hgw⟩
  obtain ⟨c0, c1, c2, c3, f0, f1, f2, f3⟩ := cells4 BK4.out
  have hz1 : w.heap.size < w1.heap.size := by omega
  have hz1n : w.heap.size ≠ w1.heap.size := by omega
  clear hi hx hb
  go_wp2_with fail
  go_loopw [16] (fun iv wr => ∃ (j : Nat) (xs : List Vl) (p : Nat) (A : Option Addr) (c : Nat), iv = .int .i64 j ∧ j ≤ 2 ∧ Hid (DRel m s w g w1.heap.size j wr xs p A c)) (fun iv _ => 2 - (intOf iv).toNat)
  case atStart =>
    refine ⟨0, [], 0, none, 0, rfl, by omega, Lib.hid ⟨⟨Nat.zero_le _, rfl⟩, ?_, ?_, ?_, ?_, Kd.R_nil _ _ _ _ _⟩⟩
    · exact (HI1.out.far (Nat.ne_of_gt hgw) _).alloc _
    · exact below_alloc (HB1.out.setCell (Nat.le_refl _) _) _
    · exact blk_alloc (blk_put (cs := #[Value.int IntKind.i64 0, Value.int IntKind.u64 0, Value.string ⟨#[]⟩, Value.slice none 0 0]) BK4.out 0 _ rfl) _
    · have hnw := blk_new (w1.setCell ⟨w.heap.size, 0, none⟩ (.int .i64 25)) (Obj.cells #[.pointer (some ⟨g, 0, none⟩), .int .i64 m] 144 (0, 0))
      rwa [World.size_setCell] at hnw
  case round =>
    obtain ⟨j, xs, p, A, c, rfl, hj, HR⟩ := hrel
    obtain ⟨h1, h2, h3, h4, h5, h6⟩ := HR.out
    have k0 := blk_cell h5 0
    have k1 := blk_cell h5 1
    by_cases hj2 : j < 2
    · have hv : valE m (-1) (s.data.toList.drop p) = rdE m (s.data.toList.drop p) := if_pos (by decide)
      have hcall := HHV.out (-1) s p g h1.1 hs w wr HT.out h2 h3
      rw [hv] at hcall
      have hgood := rdE_good m (s.data.toList.drop p)
      rw [List.length_drop, P.len_list] at hgood
      obtain ⟨rr, hrr0⟩ : ∃ x, x = rdE m (s.data.toList.drop p) := ⟨_, rfl⟩
      rw [← hrr0] at hcall hgood
      have HC := Lib.hid hcall
      have HGO := Lib.hid hgood
      have HRR := Lib.hid hrr0
      have hwr : w1.heap.size < wr.heap.size := blk_lt h5
      clear h1 h2 h3 h4 h5 h6 hv hcall hgood hrr0
      go_wp2_with fail
      refine HC.out.mono ?_
      rintro e w2 ⟨r1, r2, r3, r4, r5, r6, A3, c3, hrr, rfl, ho2, hi2, hb2, hk2⟩
      have hp2 : p ≤ s.size := HR.out.1.1
      have B4 := Lib.hid (hk2.blk HR.out.2.2.2.1 (Nat.ne_of_lt hgw) (by simp))
      have Bb := Lib.hid (hk2.blk HR.out.2.2.2.2.1 (Nat.ne_of_gt hgl) (by simp))
      obtain ⟨a0, a1, a2, a3, b0, b1, b2, b3⟩ := cells4 B4.out
      have HX := Lib.hid (And.intro ho2 (And.intro hi2 (And.intro hb2 hk2)))
      have hz2 : w1.heap.size < w2.heap.size := Nat.lt_of_lt_of_le hwr hk2.1
      have hz2n : w.heap.size ≠ w2.heap.size := by omega
      have hz3 : w.heap.size < w2.heap.size := by omega
      clear ho2 hi2 hb2 hk2 HC k0 k1
      cases rr with
      | error e =>
        have hne : e ≠ 0 := HGO.out
        simp only [P.outR, Prod.mk.injEq] at hrr
        obtain ⟨rfl, rfl, rfl, rfl, h5, rfl⟩ := hrr
        have hr : descE (dataE m) s.data.toList = .error e := by
          unfold descE
          rw [seqE_err j _ _ _ e HR.out.1.2 HRR.out.symm 2 hj2]
        have HD := Lib.hid hr
        clear hr h5
        go_wp2_with fail
        refine bodyPost_ret (results_ctt rfl _ _ w.heap.size 25 _ (0, 0) _ rfl (blk_alloc (put4 B4.out _ _ _ _) _) Tryd.underlying25 rfl (by kernel_rfl)) rfl ?_
        exact (rdPost_fail HD.out (below_put4 HX.out.2.2.1 (Nat.le_refl _) _ _ _ _)).alloc _
      | ok q =>
        obtain ⟨v, k⟩ := q
        simp only [P.outR, Prod.mk.injEq] at hrr
        obtain ⟨rfl, rfl, rfl, rfl, h5, rfl⟩ := hrr
        obtain rfl : k = r5 := by omega
        clear h5
        have hkl : k ≤ s.size - p := HGO.out
        have h6 := HR.out.2.2.2.2.2
        have hxl : xs.length = j := by
          have hq := seqE_good (readE_good (dataE_good m)) j s.data.toList
          rw [HR.out.1.2] at hq
          exact hq.2
        have hP : kV.R 25 w2 w.heap.size (fun k_ => (k_ ≠ w.heap.size ∧ k_ ≠ g ∧ k_ ≠ w1.heap.size) ∧ some k_ ≠ (Value.slice A xs.length c).ownBlock) (.slice A3 v.items.length c3) v.items :=
          Kd.R_lower (Kd.R_mono (Kd.R_bound (Kd.R_new' HX.out.1 (Kd.R_lt h6))) (fun k_ hk => ⟨by have := hk.2.1; omega, hk.1.2⟩)) (by omega)
        have hO : kV.R 25 w2 w.heap.size (fun k_ => k_ ≠ w.heap.size ∧ k_ ≠ g ∧ k_ ≠ w1.heap.size) (.slice A xs.length c) xs := Kd.R_keep h6 HX.out.2.2.2 (fun k_ hk => hk.2.1)
        have HP := Lib.hid hP
        have HO := Lib.hid hO
        have HL := Lib.hid hxl
        have hn4 : some w.heap.size ≠ (Value.slice A xs.length c).ownBlock := fun e => (h6.1 _ e.symm).1 rfl
        have hng : some g ≠ (Value.slice A xs.length c).ownBlock := fun e => (h6.1 _ e.symm).2.1 rfl
        have hnb : some w1.heap.size ≠ (Value.slice A xs.length c).ownBlock := fun e => (h6.1 _ e.symm).2.2 rfl
        have HN3 := Lib.hid (And.intro hn4 (And.intro hng hnb))
        clear h6 hP hO hxl hn4 hng hnb
        go_wp2_with ((with_reducible refine gate_builtin (b := .append) (xs := #[.tmp 28, .tmp 30]) rfl ?_); at_builtin; refine Kd.R_append kV (w0 := w) w.heap.size rfl (.tmp 28) (.tmp 30) 23 25 (.agg #[(.int .i64 0), (.int .u64 0), (.string ⟨#[]⟩), (.slice none 0 0)]) 56 rfl Tryd.underlying23 infoV rfl (by decide) (by omega) (.slice A xs.length c) xs v [.int .i64 v.kind, .int .u64 v.n, .string v.text, .slice A3 v.items.length c3] (fun k_ => k_ ≠ w.heap.size ∧ k_ ≠ g ∧ k_ ≠ w1.heap.size) (fun k_ => (k_ ≠ w.heap.size ∧ k_ ≠ g ∧ k_ ≠ w1.heap.size) ∧ some k_ ≠ (Value.slice A xs.length c).ownBlock) rfl (slice_next w2 _) ?aP (fun _ hk => hk) ?aF ?aO ?aB ?aS ?aL ?_; (case aP => exact kV_mkM _ _ _ v (Kd.R_alloc HP.out _)); (case aF => (intro k_ hk; simp at hk; omega)); (case aO => exact Kd.R_alloc HO.out _); (case aB => exact below_alloc HX.out.2.2.1 _); (case aS => exact below_size (below_alloc HX.out.2.2.1 _)); (case aL => have := HL.out; omega); intro v1 w4 ho hb4 hg4 hat; obtain ⟨A', c', rfl⟩ := Kd.R_slice ho; obtain ⟨y0, y1, y2, y3, z0, z1, z2, z3⟩ := cells4 (blk_grown (blk_alloc B4.out _) hg4 HN3.out.1); have HY := Lib.hid (And.intro ho (And.intro hb4 hg4)); clear ho hb4 hg4 hat)
        have HN : Hid (DRel m s w g w1.heap.size (j + 1) (w4.setCell ⟨w.heap.size, 3, none⟩ (.slice A' (xs.length + 1) c')) (xs ++ [v]) (p + k) A' c') := by
          rw [show xs.length + 1 = (xs ++ [v]).length by simp]
          obtain ⟨ho, hb4, hg4⟩ := HY.out
          refine Lib.hid ⟨⟨by omega, seqE_ok j _ _ _ _ _ HR.out.1.2 HRR.out.symm⟩, ?_, hb4.setCell (Nat.le_refl _) _, ?_, ?_, ?_⟩
          · exact ((HX.out.2.1.alloc _).grown hg4 HN3.out.2.1).far (Nat.ne_of_gt hgw) _
          · exact blk_put (cs := #[.int .i64 25, .int .u64 0, .string ⟨#[]⟩, .slice A xs.length c]) (blk_grown (blk_alloc B4.out _) hg4 HN3.out.1) 3 _ rfl
          · exact blk_far (blk_grown (blk_alloc Bb.out _) hg4 HN3.out.2.2) (by show w1.heap.size ≠ w.heap.size; omega) _
          · exact Kd.R_far ho (fun k_ hk => hk.1) _
        refine ⟨⟨j + 1, xs ++ [v], p + k, A', c', by go_num, by omega, HN⟩, by simp [intOf]; omega⟩
    · obtain rfl : j = 2 := by omega
      obtain ⟨a0, a1, a2, a3, b0, b1, b2, b3⟩ := cells4 h4
      have HD : Hid (descE (dataE m) s.data.toList = .ok (⟨25, 0, ofBs [], xs⟩, p)) := by
        refine Lib.hid ?_
        unfold descE
        rw [h1.2]
      clear h1 h2 h3 h4 h5 h6
      go_wp2_with fail
      go_region_held3 (fun w' => w'.cell? ⟨w.heap.size, 0, none⟩ = some (.int .i64 25) ∧ w'.cell? ⟨w.heap.size, 1, none⟩ = some (.int .u64 0) ∧ w'.cell? ⟨w.heap.size, 2, none⟩ = some (.string ⟨#[]⟩) ∧ w'.cell? ⟨w.heap.size, 3, none⟩ = some (.slice A xs.length c) ∧ w'.cell? ⟨w1.heap.size, 0, none⟩ = some (.pointer (some ⟨g, 0, none⟩))) (first | (with_reducible exact HJ.out _ _ _ _) | go_keep) ((go_at_call 100; refine (Q.octet_Cursor_At.calls g s p 0 _ _ _ _ w _ ?hI ?hB rfl).mono ?_; (case hI => exact HR.out.2.1.drew); (case hB => exact below_drew HR.out.2.2.1); (rintro e w2 ⟨rfl, hi2, hb2, hk2⟩); have D4 := Lib.hid (hk2.blk (blk_drew HR.out.2.2.2.1) (Nat.ne_of_lt hgw) (by simp)); have Db := Lib.hid (hk2.blk (blk_drew HR.out.2.2.2.2.1) (Nat.ne_of_gt hgl) (by simp)); obtain ⟨y0, y1, y2, y3, z0, z1, z2, z3⟩ := cells4 D4.out; have y5 := blk_cell Db.out 0; have HJ := Lib.hid (keepS D4.out Db.out hz1n.symm); have HX := Lib.hid (And.intro hi2 (And.intro hb2 hk2)); clear hi2 hb2 hk2))
      all_goals
        go_wp2_with fail
        refine bodyPost_ret (results_ctt rfl _ _ w.heap.size 25 _ (0, 0) _ rfl (put4 D4.out _ _ _ _) Tryd.underlying25 rfl (by kernel_rfl)) rfl ?_
        refine ⟨25, 0, ⟨#[]⟩, xs, p, 0, by rw [HD.out]; rfl, A, c, rfl, ?_, below_put4 HX.out.2.1 (Nat.le_refl _) _ _ _ _⟩
        exact Kd.R_mono (Kd.R_far (p := ⟨w.heap.size, 3, none⟩) (Kd.R_far (p := ⟨w.heap.size, 2, none⟩) (Kd.R_far (p := ⟨w.heap.size, 1, none⟩) (Kd.R_far (p := ⟨w.heap.size, 0, none⟩) (Kd.R_keep (Kd.R_drew HR.out.2.2.2.2.2) HX.out.2.2 (fun _ hk => hk.2.1)) (fun _ hk => hk.1) _) (fun _ hk => hk.1) _) (fun _ hk => hk.1) _) (fun _ hk => hk.1) _) (fun _ _ => trivial)
end Go.Proofs.YtekpofpgkokoiaaDoor.M
