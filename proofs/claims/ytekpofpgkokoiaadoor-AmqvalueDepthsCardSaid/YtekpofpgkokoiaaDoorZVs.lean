/- A part of this claim: what its theorem leans on. -/
import Derived.Test.YtekpofpgkokoiaaDoorZVr
set_option linter.unusedVariables false
set_option linter.unusedSimpArgs false
namespace Go.Proofs.YtekpofpgkokoiaaDoor.M
open Go.RowKit Go.Proofs.YtekpofpgkokoiaaDoorW.PrintWords
def valE (m : Nat) (code : Int) (l : Bs) : Rd := if code < 0 then rdE m l else dataE m code l
theorem valE_good (m : Nat) (code : Int) (s : Bs) : GoodR s.length (valE m code s) := by
  unfold valE
  split
  · exact rdE_good m s
  · exact dataE_good m code s
def VlPost (w0 w : World) (g : Nat) (t : ByteArray) (p : Nat) (r : Rd) (e : Ending) (w' : World) : Prop :=
  ∃ (r1 r2 : Int) (r3 : ByteArray) (r4 : List Vl) (r5 : Nat) (r6 : Int) (A : Option Addr) (c : Nat), P.outR r = (r1, r2, r3, r4, (r5 : Int), r6) ∧ e = .returned (.tuple #[.agg #[.int .i64 r1, .int .u64 r2, .string r3, .slice A r4.length c], .int .i64 r6]) ∧
  Kd.R kV 25 w' w.heap.size (fun _ => True) (.slice A r4.length c) r4 ∧ Q.IsS141 w0 w' g t ((p + r5 : Nat) : Int) 0 ∧ Below w0.heap.size w0 w' ∧ KeepBut w w' g none
theorem rest_ok (t : ByteArray) (p : Nat) (h : p ≤ t.size) : Q.octet_Cursor_Rest.f t (p : Int) 0 = some (t.extract p t.size, t, (p : Int), 0) := by
  unfold Q.octet_Cursor_Rest.f
  rw [if_pos (by omega), if_pos (by omega)]
  rw [show (p : Int).toNat = p by omega]
theorem rest_list (t : ByteArray) (p : Nat) : (t.extract p t.size).data.toList = t.data.toList.drop p := by
  rw [P.ext_list, List.take_of_length_le (by rw [P.len_list]; exact Nat.le_refl _)]
theorem R_keepg {e b g : Nat} {W1 W2 : World} {v : Value} {xs : List Vl} (h : Kd.R kV e W1 b (fun _ => True) v xs) (hk : KeepBut W1 W2 g none) (hg : g < b) : Kd.R kV e W2 b (fun _ => True) v xs :=
  Kd.R_mono (Kd.R_keep (Kd.R_bound h) hk (fun k hk => by have := hk.2.1; omega)) (fun _ _ => trivial)
theorem val_start {w w1 : World} {g : Nat} {a b c : Array Value} {ta tb tc : TypeId} (hk : KeepBut (((w.alloc (.cells a ta)).alloc (.cells b tb)).alloc (.cells c tc)).drew w1 g none) (hg : g < w.heap.size) :
    KeepBut w w1 g none ∧ w1.heap[w.heap.size]? = some (.cells a ta) ∧ w1.heap[w.heap.size + 1]? = some (.cells b tb) ∧ w1.heap[w.heap.size + 1 + 1]? = some (.cells c tc) ∧ w.heap.size + 3 ≤ w1.heap.size := by
  have h1 := blk_new w (.cells a ta)
  have h2 := blk_new (w.alloc (.cells a ta)) (.cells b tb)
  have h3 := blk_new ((w.alloc (.cells a ta)).alloc (.cells b tb)) (.cells c tc)
  have e1 : (w.alloc (.cells a ta)).heap.size = w.heap.size + 1 := by simp
  have e2 : ((w.alloc (.cells a ta)).alloc (.cells b tb)).heap.size = w.heap.size + 1 + 1 := by simp
  rw [e1] at h2
  rw [e2] at h3
  refine ⟨KeepBut.trans (keep_drew (keep_alloc (keep_alloc (keep_alloc (KeepBut.refl w g none) _) _) _)) hk (.inl rfl), ?_, ?_, ?_, ?_⟩
  · exact hk.blk (blk_drew (blk_alloc (blk_alloc h1 _) _)) (by omega) (by simp)
  · exact hk.blk (blk_drew (blk_alloc h2 _)) (by omega) (by simp)
  · exact hk.blk (blk_drew h3) (by omega) (by simp)
  · have := hk.1
    have e3 : (((w.alloc (.cells a ta)).alloc (.cells b tb)).alloc (.cells c tc)).drew.heap.size = w.heap.size + 3 := by
      show (((w.alloc (.cells a ta)).alloc (.cells b tb)).alloc (.cells c tc)).heap.size = _
      simp
    omega
theorem cells4 {W : World} {g : Nat} {a0 a1 a2 a3 : Value} {ty : TypeId} (h : W.heap[g]? = some (.cells #[a0, a1, a2, a3] ty (0, 0))) : W.cell? ⟨g, 0, none⟩ = some a0 ∧ W.cell? ⟨g, 1, none⟩ = some a1 ∧ W.cell? ⟨g, 2, none⟩ = some a2 ∧ W.cell? ⟨g, 3, none⟩ = some a3 ∧ W.frozen? ⟨g, 0, none⟩ = false ∧ W.frozen? ⟨g, 1, none⟩ = false ∧ W.frozen? ⟨g, 2, none⟩ = false ∧ W.frozen? ⟨g, 3, none⟩ = false :=
  ⟨blk_cell h 0, blk_cell h 1, blk_cell h 2, blk_cell h 3, blk_frozen h 0, blk_frozen h 1, blk_frozen h 2, blk_frozen h 3⟩
theorem box_far {W : World} {q h : Nat} {x y : Value} {ty : TypeId} (hb : W.heap[q]? = some (.cells #[x, y] ty (0, 0))) (hne : q ≠ h) (a b c d : Value) : ((((W.setCell ⟨h, 0, none⟩ a).setCell ⟨h, 1, none⟩ b).setCell ⟨h, 2, none⟩ c).setCell ⟨h, 3, none⟩ d).cell? ⟨q, 0, none⟩ = some x ∧ ((((W.setCell ⟨h, 0, none⟩ a).setCell ⟨h, 1, none⟩ b).setCell ⟨h, 2, none⟩ c).setCell ⟨h, 3, none⟩ d).cell? ⟨q, 1, none⟩ = some y :=
  ⟨blk_cell (blk_far (blk_far (blk_far (blk_far hb hne _) hne _) hne _) hne _) 0, blk_cell (blk_far (blk_far (blk_far (blk_far hb hne _) hne _) hne _) hne _) 1⟩
theorem vlPost_put {w0 w W : World} {g q b p : Nat} {t : ByteArray} {r : Rd} {A : Option Addr} {c : Nat} {r1 r2 : Int} {r3 : ByteArray} {r4 : List Vl} {r5 : Nat} {r6 : Int} (hr : P.outR r = (r1, r2, r3, r4, (r5 : Int), r6))
    (hR : Kd.R kV 25 W b (fun _ => True) (.slice A r4.length c) r4) (hI : Q.IsS141 w0 W g t ((p + r5 : Nat) : Int) 0) (hB : Below w0.heap.size w0 W) (hK : KeepBut w W g none) (hb : w.heap.size ≤ b) (hq : q < b) (hq0 : w.heap.size ≤ q) (hgq : g ≠ q) (hw : w0.heap.size ≤ w.heap.size) :
    VlPost w0 w g t p r (.returned (.tuple #[.agg #[.int .i64 r1, .int .u64 r2, .string r3, .slice A r4.length c], .int .i64 r6])) ((((W.setCell ⟨q, 0, none⟩ (.int .i64 r1)).setCell ⟨q, 1, none⟩ (.int .u64 r2)).setCell ⟨q, 2, none⟩ (.string r3)).setCell ⟨q, 3, none⟩ (.slice A r4.length c)) :=
  ⟨_, _, _, _, _, _, A, c, hr, rfl, Kd.R_lower (R_set (R_set (R_set (R_set hR hq _) hq _) hq _) hq _) hb, (((hI.far hgq _).far hgq _).far hgq _).far hgq _, below_put4 hB (by omega) _ _ _ _, keep_far (keep_far (keep_far (keep_far hK hq0 _) hq0 _) hq0 _) hq0 _⟩
set_option maxRecDepth 100000 in
set_option maxHeartbeats 4000000 in
theorem value_calls (m : Nat) (hm : m ≤ 32)
    (HRd : ∀ (t : ByteArray), t.size ≤ 140737488351232 → ∀ W, Tb W → Calls Tryd.prog 30 #[.string t, .int .i64 m] W fun e w' => RdPost W (rdE m t.data.toList) e w')
    (HDt : ∀ (code : Int) (t : ByteArray), t.size ≤ 140737488351232 → ∀ W, Tb W → Calls Tryd.prog 52 #[.int .i64 code, .string t, .int .i64 m] W fun e w' => RdPost W (dataE m code t.data.toList) e w')
    (code : Int) (t : ByteArray) (p g : Nat) (hp : p ≤ t.size) (ht : t.size ≤ 140737488351232) (w0 w : World) (hT : Tb w0) (hI : Q.IsS141 w0 w g t p 0) (hB : Below w0.heap.size w0 w) :
    Calls Tryd.prog 145 #[.agg #[.pointer (some ⟨g, 0, none⟩), .int .i64 m], .int .i64 code] w fun e w' => VlPost w0 w g t p (valE m code (t.data.toList.drop p)) e w' := by
  have HT := Lib.hid hT
  have HI := Lib.hid hI
  have HB := Lib.hid hB
  have HHR := Lib.hid HRd
  have HHD := Lib.hid HDt
  have hgl := hI.lt
  have hgw := hI.ge
  have HSZ := Lib.hid (show (t.extract p t.size).size ≤ 140737488351232 by rw [P.ext_size' _ _ _ (Nat.le_refl _)]; omega)
  have HRS := Lib.hid (rest_ok t p hp)
  clear hT hI hB HRd HDt
  by_cases hc : code < 0
  · have hv : valE m code (t.data.toList.drop p) = rdE m (t.extract p t.size).data.toList := by unfold valE; rw [if_pos hc, rest_list]
    have hgood := valE_good m code (t.data.toList.drop p)
    rw [hv] at hgood ⊢
    rw [List.length_drop, P.len_list] at hgood
    obtain ⟨rr, hrr0⟩ : ∃ x, x = rdE m (t.extract p t.size).data.toList := ⟨_, rfl⟩
    have HGO := Lib.hid hgood
    have hcall := fun W hW => HHR.out _ HSZ.out W hW
    rw [← hrr0] at hcall ⊢
    have HGG : Hid (GoodR (t.size - p) rr) := Lib.hid (by rw [hrr0]; exact HGO.out)
    have HCC := Lib.hid hcall
    clear hv hgood hcall hrr0 HGO
    have hne1 : w.heap.size + 1 ≠ w.heap.size + 1 + 1 := by omega
    have hne2 : w.heap.size + 1 + 1 ≠ w.heap.size + 1 := by omega
    have hne3 : w.heap.size ≠ w.heap.size + 1 + 1 := by omega
    have hne4 : w.heap.size ≠ w.heap.size + 1 := by omega
    go_enter Tryd.func145, Tryd.ntmps145
    go_wp2_with fail
    go_region_held3 (fun w' => w'.cell? ⟨w.heap.size, 0, none⟩ = some (.pointer (some ⟨g, 0, none⟩)) ∧ w'.cell? ⟨w.heap.size, 1, none⟩ = some (.int .i64 m)) (first | go_keep | exact HJ.out _ _ _ _) (first | (go_at_call 138; refine (Q.octet_Cursor_Rest.calls g t p 0 _ _ _ _ w0 _ ?hI ?hB HRS.out).mono ?_; (case hI => exact (((HI.out.alloc _).alloc _).alloc _).drew); (case hB => exact below_drew (below_alloc (below_alloc (below_alloc HB.out _) _) _)); (rintro e w1 ⟨rfl, hi1, hb1, hk1⟩); obtain ⟨hk1', hx1, hx2, hx3, hx4⟩ := val_start hk1 hgl; have k0 : w1.cell? ⟨w.heap.size, 0, none⟩ = some (.pointer (some ⟨g, 0, none⟩)) := blk_cell hx1 0; have k1 : w1.cell? ⟨w.heap.size, 1, none⟩ = some (.int .i64 m) := blk_cell hx1 1; have HX1 := Lib.hid (And.intro hi1 (And.intro hb1 (And.intro hk1' (And.intro hx1 (And.intro hx2 (And.intro hx3 hx4)))))); clear hi1 hb1 hk1 hk1' hx1 hx2 hx3 hx4) | (go_at_call 30; refine (HCC.out _ (HT.out.below HX1.out.2.1)).mono ?_; (rintro e w2 ⟨r1, r2, r3, r4, r5', r6, hrr, A3, c3, rfl, ho3, hb3⟩); have j0 := pw_cell_below hb3 k0; have j1 := pw_cell_below hb3 k1; obtain ⟨c0, c1, c2, c3', f0, f1, f2, f3⟩ := cells4 (blk_below HX1.out.2.2.2.2.2.1 hb3); obtain ⟨d0, d1, d2, d3, i0, i1, i2, i3⟩ := cells4 (blk_below HX1.out.2.2.2.2.1 hb3); have HJ := Lib.hid (box_far (blk_below HX1.out.2.2.2.1 hb3) hne3); have HX2 := Lib.hid (And.intro hrr (And.intro ho3 hb3)); clear hrr ho3 hb3 k0 k1))
    all_goals
      have HI2 := Lib.hid (HX1.out.1.below HX2.out.2.2)
      have HB2 := Lib.hid (below_step HX1.out.2.1 HX2.out.2.2)
      have HK2 := Lib.hid (KeepBut.trans HX1.out.2.2.1 (KeepBut.of_below HX2.out.2.2 g none) (.inl rfl))
      have B4 := Lib.hid (blk_below HX1.out.2.2.2.2.1 HX2.out.2.2)
      have B6 := Lib.hid (blk_below HX1.out.2.2.2.2.2.1 HX2.out.2.2)
      have hz1 := HX1.out.2.2.2.2.2.2
      have HO := Lib.hid HX2.out.2.1
      have hrr := HX2.out.1
      have hgood := HGG.out
      clear HX1 HX2 HCC HGG
      cases rr with
      | error e =>
        simp only [P.outR, Prod.mk.injEq] at hrr
        obtain ⟨rfl, rfl, rfl, rfl, rfl, rfl⟩ := hrr
        have hne : e ≠ 0 := hgood
        clear hgood
        go_wp2_with fail
        refine bodyPost_ret (results_ct rfl _ _ (w.heap.size + 1) 25 _ (0, 0) _ rfl (put4 (blk_far (blk_far (blk_far (blk_far B4.out hne1 _) hne1 _) hne1 _) hne1 _) _ _ _ _) Tryd.underlying25 rfl (by kernel_rfl)) rfl ?_
        have hg6 : g ≠ w.heap.size + 1 + 1 := by omega
        have hl6 : w.heap.size + 1 + 1 < w1.heap.size := by omega
        exact vlPost_put (r5 := 0) rfl (R_set (R_set (R_set (R_set HO.out hl6 _) hl6 _) hl6 _) hl6 _) ((((HI2.out.far hg6 _).far hg6 _).far hg6 _).far hg6 _) (below_put4 HB2.out (by omega) _ _ _ _) (keep_far (keep_far (keep_far (keep_far HK2.out (by show w.heap.size ≤ w.heap.size + 1 + 1; omega) _) (by show w.heap.size ≤ w.heap.size + 1 + 1; omega) _) (by show w.heap.size ≤ w.heap.size + 1 + 1; omega) _) (by show w.heap.size ≤ w.heap.size + 1 + 1; omega) _) (by omega) (by omega) (by omega) (by omega) HB.out.size
      | ok q =>
        obtain ⟨v, k⟩ := q
        simp only [P.outR, Prod.mk.injEq] at hrr
        obtain ⟨rfl, rfl, rfl, rfl, rfl, rfl⟩ := hrr
        have hk : k ≤ t.size - p := hgood
        clear hgood
        go_wp2_with fail
        refine (Q.octet_Cursor_Take.calls g t p 0 k _ _ _ _ w0 _ ?hI ?hB (P.take_ok t p k (by omega) ht)).mono ?_
        case hI =>
          have hg6 : g ≠ w.heap.size + 1 + 1 := by omega
          exact (((HI2.out.far hg6 _).far hg6 _).far hg6 _).far hg6 _
        case hB => exact below_put4 HB2.out (by omega) _ _ _ _
        rintro e w4 ⟨rfl, hi4, hb4, hk4⟩
        have HI4 := Lib.hid hi4
        have HB4 := Lib.hid hb4
        have HK4 := Lib.hid hk4
        have D4 := Lib.hid (hk4.blk (blk_far (blk_far (blk_far (blk_far B4.out hne1 _) hne1 _) hne1 _) hne1 _) (by omega) (by simp))
        obtain ⟨a0, a1, a2, a3, b0, b1, b2, b3⟩ := cells4 D4.out
        obtain ⟨e0, e1, e2, e3, g0, g1, g2, g3⟩ := cells4 (hk4.blk (put4 B6.out (.int .i64 v.kind) (.int .u64 v.n) (.string v.text) (.slice A3 v.items.length c3)) (by omega) (by simp))
        clear hi4 hb4 hk4
        go_wp2_with fail
        refine bodyPost_ret (results_ct rfl _ _ (w.heap.size + 1) 25 _ (0, 0) _ rfl (put4 D4.out _ _ _ _) Tryd.underlying25 rfl (by kernel_rfl)) rfl ?_
        have hl6 : w.heap.size + 1 + 1 < w1.heap.size := by omega
        exact vlPost_put (r5 := k) rfl (R_keepg (R_set (R_set (R_set (R_set HO.out hl6 _) hl6 _) hl6 _) hl6 _) HK4.out (by omega)) HI4.out HB4.out (KeepBut.trans (keep_far (keep_far (keep_far (keep_far HK2.out (by show w.heap.size ≤ w.heap.size + 1 + 1; omega) _) (by show w.heap.size ≤ w.heap.size + 1 + 1; omega) _) (by show w.heap.size ≤ w.heap.size + 1 + 1; omega) _) (by show w.heap.size ≤ w.heap.size + 1 + 1; omega) _) HK4.out (.inl rfl)) (by omega) (by omega) (by omega) (by omega) HB.out.size
  · have hv : valE m code (t.data.toList.drop p) = dataE m code (t.extract p t.size).data.toList := by unfold valE; rw [if_neg hc, rest_list]
    have hgood := valE_good m code (t.data.toList.drop p)
    rw [hv] at hgood ⊢
    rw [List.length_drop, P.len_list] at hgood
    obtain ⟨rr, hrr0⟩ : ∃ x, x = dataE m code (t.extract p t.size).data.toList := ⟨_, rfl⟩
    have HGO := Lib.hid hgood
    have hcall := fun W hW => HHD.out code _ HSZ.out W hW
    rw [← hrr0] at hcall ⊢
    have HGG : Hid (GoodR (t.size - p) rr) := Lib.hid (by rw [hrr0]; exact HGO.out)
    have HCC := Lib.hid hcall
    clear hv hgood hcall hrr0 HGO
    have hne1 : w.heap.size + 1 ≠ w.heap.size + 1 + 1 := by omega
    have hne2 : w.heap.size + 1 + 1 ≠ w.heap.size + 1 := by omega
    have hne3 : w.heap.size ≠ w.heap.size + 1 + 1 := by omega
    have hne4 : w.heap.size ≠ w.heap.size + 1 := by omega
    go_enter Tryd.func145, Tryd.ntmps145
    go_wp2_with fail
    go_region_held3 (fun w' => w'.cell? ⟨w.heap.size, 0, none⟩ = some (.pointer (some ⟨g, 0, none⟩)) ∧ w'.cell? ⟨w.heap.size, 1, none⟩ = some (.int .i64 m)) (first | go_keep | exact HJ.out _ _ _ _) (first | (go_at_call 138; refine (Q.octet_Cursor_Rest.calls g t p 0 _ _ _ _ w0 _ ?hI ?hB HRS.out).mono ?_; (case hI => exact (((HI.out.alloc _).alloc _).alloc _).drew); (case hB => exact below_drew (below_alloc (below_alloc (below_alloc HB.out _) _) _)); (rintro e w1 ⟨rfl, hi1, hb1, hk1⟩); obtain ⟨hk1', hx1, hx2, hx3, hx4⟩ := val_start hk1 hgl; have k0 : w1.cell? ⟨w.heap.size, 0, none⟩ = some (.pointer (some ⟨g, 0, none⟩)) := blk_cell hx1 0; have k1 : w1.cell? ⟨w.heap.size, 1, none⟩ = some (.int .i64 m) := blk_cell hx1 1; have HX1 := Lib.hid (And.intro hi1 (And.intro hb1 (And.intro hk1' (And.intro hx1 (And.intro hx2 (And.intro hx3 hx4)))))); clear hi1 hb1 hk1 hk1' hx1 hx2 hx3 hx4) | (go_at_call 52; refine (HCC.out _ (HT.out.below HX1.out.2.1)).mono ?_; (rintro e w2 ⟨r1, r2, r3, r4, r5', r6, hrr, A3, c3, rfl, ho3, hb3⟩); have j0 := pw_cell_below hb3 k0; have j1 := pw_cell_below hb3 k1; obtain ⟨c0, c1, c2, c3', f0, f1, f2, f3⟩ := cells4 (blk_below HX1.out.2.2.2.2.2.1 hb3); obtain ⟨d0, d1, d2, d3, i0, i1, i2, i3⟩ := cells4 (blk_below HX1.out.2.2.2.2.1 hb3); have HJ := Lib.hid (box_far (blk_below HX1.out.2.2.2.1 hb3) hne3); have HX2 := Lib.hid (And.intro hrr (And.intro ho3 hb3)); clear hrr ho3 hb3 k0 k1))
    all_goals
      have HI2 := Lib.hid (HX1.out.1.below HX2.out.2.2)
      have HB2 := Lib.hid (below_step HX1.out.2.1 HX2.out.2.2)
      have HK2 := Lib.hid (KeepBut.trans HX1.out.2.2.1 (KeepBut.of_below HX2.out.2.2 g none) (.inl rfl))
      have B4 := Lib.hid (blk_below HX1.out.2.2.2.2.1 HX2.out.2.2)
      have B6 := Lib.hid (blk_below HX1.out.2.2.2.2.2.1 HX2.out.2.2)
      have hz1 := HX1.out.2.2.2.2.2.2
      have HO := Lib.hid HX2.out.2.1
      have hrr := HX2.out.1
      have hgood := HGG.out
      clear HX1 HX2 HCC HGG
      cases rr with
      | error e =>
        simp only [P.outR, Prod.mk.injEq] at hrr
        obtain ⟨rfl, rfl, rfl, rfl, rfl, rfl⟩ := hrr
        have hne : e ≠ 0 := hgood
        clear hgood
        go_wp2_with fail
        refine bodyPost_ret (results_ct rfl _ _ (w.heap.size + 1) 25 _ (0, 0) _ rfl (put4 (blk_far (blk_far (blk_far (blk_far B4.out hne1 _) hne1 _) hne1 _) hne1 _) _ _ _ _) Tryd.underlying25 rfl (by kernel_rfl)) rfl ?_
        have hg6 : g ≠ w.heap.size + 1 + 1 := by omega
        have hl6 : w.heap.size + 1 + 1 < w1.heap.size := by omega
        exact vlPost_put (r5 := 0) rfl (R_set (R_set (R_set (R_set HO.out hl6 _) hl6 _) hl6 _) hl6 _) ((((HI2.out.far hg6 _).far hg6 _).far hg6 _).far hg6 _) (below_put4 HB2.out (by omega) _ _ _ _) (keep_far (keep_far (keep_far (keep_far HK2.out (by show w.heap.size ≤ w.heap.size + 1 + 1; omega) _) (by show w.heap.size ≤ w.heap.size + 1 + 1; omega) _) (by show w.heap.size ≤ w.heap.size + 1 + 1; omega) _) (by show w.heap.size ≤ w.heap.size + 1 + 1; omega) _) (by omega) (by omega) (by omega) (by omega) HB.out.size
      | ok q =>
        obtain ⟨v, k⟩ := q
        simp only [P.outR, Prod.mk.injEq] at hrr
        obtain ⟨rfl, rfl, rfl, rfl, rfl, rfl⟩ := hrr
        have hk : k ≤ t.size - p := hgood
        clear hgood
        go_wp2_with fail
        refine (Q.octet_Cursor_Take.calls g t p 0 k _ _ _ _ w0 _ ?hI ?hB (P.take_ok t p k (by omega) ht)).mono ?_
        case hI =>
          have hg6 : g ≠ w.heap.size + 1 + 1 := by omega
          exact (((HI2.out.far hg6 _).far hg6 _).far hg6 _).far hg6 _
        case hB => exact below_put4 HB2.out (by omega) _ _ _ _
        rintro e w4 ⟨rfl, hi4, hb4, hk4⟩
        have HI4 := Lib.hid hi4
        have HB4 := Lib.hid hb4
        have HK4 := Lib.hid hk4
        have D4 := Lib.hid (hk4.blk (blk_far (blk_far (blk_far (blk_far B4.out hne1 _) hne1 _) hne1 _) hne1 _) (by omega) (by simp))
        obtain ⟨a0, a1, a2, a3, b0, b1, b2, b3⟩ := cells4 D4.out
        obtain ⟨e0, e1, e2, e3, g0, g1, g2, g3⟩ := cells4 (hk4.blk (put4 B6.out (.int .i64 v.kind) (.int .u64 v.n) (.string v.text) (.slice A3 v.items.length c3)) (by omega) (by simp))
        clear hi4 hb4 hk4
        go_wp2_with fail
        refine bodyPost_ret (results_ct rfl _ _ (w.heap.size + 1) 25 _ (0, 0) _ rfl (put4 D4.out _ _ _ _) Tryd.underlying25 rfl (by kernel_rfl)) rfl ?_
        have hl6 : w.heap.size + 1 + 1 < w1.heap.size := by omega
        exact vlPost_put (r5 := k) rfl (R_keepg (R_set (R_set (R_set (R_set HO.out hl6 _) hl6 _) hl6 _) hl6 _) HK4.out (by omega)) HI4.out HB4.out (KeepBut.trans (keep_far (keep_far (keep_far (keep_far HK2.out (by show w.heap.size ≤ w.heap.size + 1 + 1; omega) _) (by show w.heap.size ≤ w.heap.size + 1 + 1; omega) _) (by show w.heap.size ≤ w.heap.size + 1 + 1; omega) _) (by show w.heap.size ≤ w.heap.size + 1 + 1; omega) _) HK4.out (.inl rfl)) (by omega) (by omega) (by omega) (by omega) HB.out.size
end Go.Proofs.YtekpofpgkokoiaaDoor.M
