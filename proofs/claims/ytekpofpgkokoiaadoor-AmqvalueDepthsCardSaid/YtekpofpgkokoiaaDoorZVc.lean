/- A part of this claim: what its theorem leans on. -/
import Derived.Test.YtekpofpgkokoiaaDoorZVf
import Derived.Test.YtekpofpgkokoiaaDoorZQamqvaluea
import Derived.Test.YtekpofpgkokoiaaDoorZVp
import Derived.Laws.EntriesVeiled
import Derived.Outline
set_option linter.unusedVariables false
set_option linter.unusedSimpArgs false
namespace Go.Proofs.YtekpofpgkokoiaaDoor.M
open Go.RowKit Go.Proofs.YtekpofpgkokoiaaDoorW.PrintWords
theorem chkL_append (m : Nat) (k n : Int) : ∀ a b : List Vl, chkL m k n (a ++ b) = if chkL m k n a = 0 then chkL m k n b else chkL m k n a
  | [], b => by simp [chkL]
  | x :: a, b => by
    have e1 : chkL m k n (x :: a) = if k = 24 ∧ x.kind ≠ n then 8 else if chkV m x = 0 then chkL m k n a else chkV m x := by rw [chkL]
    have e2 : chkL m k n (x :: (a ++ b)) = if k = 24 ∧ x.kind ≠ n then 8 else if chkV m x = 0 then chkL m k n (a ++ b) else chkV m x := by rw [chkL]
    have ih := chkL_append m k n a b
    rw [List.cons_append, e2]
    generalize chkL m k n (x :: a) = q at e1 ⊢
    by_cases h : k = 24 ∧ x.kind ≠ n
    · rw [if_pos h] at e1 ⊢
      subst e1
      rfl
    · rw [if_neg h] at e1 ⊢
      by_cases h2 : chkV m x = 0
      · rw [if_pos h2] at e1 ⊢
        subst e1
        exact ih
      · rw [if_neg h2] at e1 ⊢
        subst e1
        rw [if_neg h2]
theorem chkL_at (m : Nat) (k n : Int) (l : List Vl) (j : Nat) (hj : j < l.length) (h : chkL m k n (l.take j) = 0) :
    chkL m k n l = if k = 24 ∧ l[j].kind ≠ n then 8 else if chkV m l[j] = 0 then chkL m k n (l.drop (j + 1)) else chkV m l[j] := by
  conv => lhs; rw [← List.take_append_drop j l]
  rw [chkL_append, if_pos h, List.drop_eq_getElem_cons hj, chkL]
theorem chkL_take (m : Nat) (k n : Int) (l : List Vl) (j : Nat) (hj : j < l.length) (h : chkL m k n (l.take j) = 0) (h1 : ¬ (k = 24 ∧ l[j].kind ≠ n)) (h2 : chkV m l[j] = 0) : chkL m k n (l.take (j + 1)) = 0 := by
  rw [List.take_succ_eq_append_getElem hj, chkL_append, if_pos h, chkL, if_neg h1, if_pos h2, chkL]
theorem chk_far {m : Nat} {v : Vl} (h : v.kind < 1 ∨ 25 < v.kind) : chkV m v = 8 := by
  obtain ⟨k, n, t, l⟩ := v
  rw [chkV, if_pos h]
theorem chk_scalar {m : Nat} {v : Vl} (h : ¬ (v.kind < 1 ∨ 25 < v.kind)) (h1 : v.kind ≤ 21) : chkV m v = checkP v := by
  obtain ⟨k, n, t, l⟩ := v
  rw [chkV, if_neg h, if_pos h1]
theorem chk_items {m : Nat} {v : Vl} (h : ¬ (v.kind < 1 ∨ 25 < v.kind)) (h1 : ¬ v.kind ≤ 21) : chkV m v = if m = 0 then 14 else if shapedP v = false then 2 else if 1000 < v.items.length then 4
    else if chkL (m - 1) v.kind v.n v.items = 0 then keysP v.kind v.items else chkL (m - 1) v.kind v.n v.items := by
  obtain ⟨k, n, t, l⟩ := v
  rw [chkV, if_neg h, if_neg h1]
theorem new_cell (w : World) (cs : Array Value) (t : Nat) (i : Nat) : (w.alloc (Obj.cells cs t)).cell? ⟨w.heap.size, i, none⟩ = cs[i]? := by
  simp only [World.cell?, World.alloc, Array.getElem?_push, if_true]
  rfl
theorem new_cell' (w : World) (cs : Array Value) (t : Nat) (i : Nat) {g : Nat} (h : w.heap.size = g) : (w.alloc (Obj.cells cs t)).cell? ⟨g, i, none⟩ = cs[i]? := by
  subst h
  exact new_cell w cs t i
theorem atVn {w : World} {A : Option Addr} {n : Nat} {xs : List Vl} (h : Kd.C kV w A n xs) (j : Nat) (hj : j < n) : ∃ y ad A3 c3, xs[j]? = some y ∧ A = some ad ∧ w.cell? (ad.add (j * 4)) = some (.int .i64 y.kind) ∧ w.cell? ⟨(ad.add (j * 4)).block, (ad.add (j * 4)).off + 1, none⟩ = some (.int .u64 y.n) ∧
    w.cell? ⟨(ad.add (j * 4)).block, (ad.add (j * 4)).off + 2, none⟩ = some (.string y.text) ∧ w.cell? ⟨(ad.add (j * 4)).block, (ad.add (j * 4)).off + 3, none⟩ = some (.slice A3 y.items.length c3) ∧ y.items.length ≤ c3 ∧ kV.C w A3 y.items.length y.items := by
  obtain ⟨ad, A3, c3, e, q0, q1, q2, q3, l3, g3⟩ := atV h j (by omega) (by omega)
  have hl : j < xs.length := by rw [Kd.C_len h]; exact hj
  have e1 : rdV xs j = xs[j] := by unfold rdV; rw [List.getD_eq_getElem?_getD, Int.toNat_natCast, List.getElem?_eq_getElem hl]; rfl
  rw [Int.toNat_natCast, e1] at q0 q1 q2 q3
  rw [e1] at l3 g3
  exact ⟨xs[j], ad, A3, c3, List.getElem?_eq_getElem hl, e, q0, q1, q2, q3, l3, g3⟩
theorem conv_kind (y n : Int) (h0 : -9223372036854775808 ≤ y) (h1 : y ≤ 9223372036854775807) (h2 : 0 ≤ n) (h3 : n ≤ 24) : (IntKind.u64.wrap y == n) = decide (y = n) := by
  rw [Bool.eq_iff_iff]
  simp [IntKind.wrap, IntKind.bits, IntKind.signed]
  omega
set_option maxRecDepth 100000 in
set_option maxHeartbeats 4000000 in
theorem look_calls : ∀ (N : Nat) (v : Vl) (most : Nat) (w : World) (A : Option Addr) (cp gb : Nat), SizeOf.sizeOf v < N → P.Ok v → most ≤ 32 → Tb w → kV.C w A v.items.length v.items → v.items.length ≤ cp →
    w.cell? ⟨gb, 0, none⟩ = some (.func (.func 109) #[] #[.pointer (some ⟨gb, 0, none⟩)]) →
    Calls Tryd.prog 109 #[.agg #[.int .i64 v.kind, .int .u64 v.n, .string v.text, .slice A v.items.length cp], .int .i64 most, .pointer (some ⟨gb, 0, none⟩)] w fun e w' => e = .returned (.int .i64 (chkV most v)) ∧ Below w.heap.size w w' := by
  intro N
  induction N with
  | zero => intro v most w A cp gb h; omega
  | succ N ih =>
    intro v most w A cp gb hN hv hm hT hC hcp hcl
    have hlen := hv.len
    have HN := Lib.hid hN
    have HV := Lib.hid hv
    have HT := Lib.hid hT
    have HC := Lib.hid hC
    clear hN hv hT hC
    by_cases hfar : v.kind < 1 ∨ 25 < v.kind
    · rw [chk_far hfar]
      rcases hfar with hfar | hfar
      · go_enter Tryd.func109, Tryd.ntmps109
        go_wp2_with fail
        go_ret
        exact ⟨rfl, below_new _ _⟩
      · have hf2 : ¬ v.kind < 1 := by omega
        go_enter Tryd.func109, Tryd.ntmps109
        go_wp2_with fail
        go_ret
        exact ⟨rfl, below_new _ _⟩
    have hk1 : ¬ v.kind < 1 := by omega
    have hk2 : ¬ 25 < v.kind := by omega
    by_cases hk3 : v.kind ≤ 21
    · rw [chk_scalar hfar hk3]
      have hcon := fun W hW => Check_calls v.kind v.n v.text v.items A cp W HV.out.n0 HV.out.n1 (Nat.le_trans HV.out.tx (by decide)) hW (by omega)
      rw [P.vl_eta] at hcon
      clear hfar
      go_enter Tryd.func109, Tryd.ntmps109
      go_wp2_with fail
      refine (hcon _ (HT.out.alloc _)).mono ?_
      rintro e w1 ⟨rfl, hb1⟩
      have HB1 := below_step (below_new _ _) hb1
      go_wp2_with fail
      go_ret
      exact ⟨rfl, HB1⟩
    rw [chk_items hfar hk3]
    clear hfar
    by_cases hm0 : most = 0
    · rw [if_pos hm0]
      subst hm0
      go_enter Tryd.func109, Tryd.ntmps109
      go_wp2_with fail
      go_ret
      exact ⟨rfl, below_new _ _⟩
    rw [if_neg hm0]
    have hsh := P.shaped_some v
    cases hs : shapedP v with
    | false =>
      rw [if_pos rfl]
      rw [hs] at hsh
      have HS := Lib.hid hsh
      clear hsh hs
      go_enter Tryd.func109, Tryd.ntmps109
      go_wp2_with fail
      refine (Q.amqvalue_shaped.calls v.kind v.n v.text _ _ v.items false _ (Kd.C_alloc HC.out _) hcp HS.out).mono ?_
      rintro e w1 ⟨rfl, hb1⟩
      have HB1 := below_step (below_new _ _) hb1
      go_wp2_with fail
      go_ret
      exact ⟨rfl, HB1⟩
    | true =>
      rw [if_neg (by simp)]
      rw [hs] at hsh
      have HS := Lib.hid hsh
      clear hsh
      by_cases hl : 1000 < v.items.length
      · rw [if_pos hl]
        clear hs
        go_enter Tryd.func109, Tryd.ntmps109
        go_wp2_with fail
        refine (Q.amqvalue_shaped.calls v.kind v.n v.text _ _ v.items true _ (Kd.C_alloc HC.out _) hcp HS.out).mono ?_
        rintro e w1 ⟨rfl, hb1⟩
        have HB1 := below_step (below_new _ _) hb1
        obtain ⟨hc1, hf1⟩ := kept_cells hb1
        have hz1 := new_lt hb1
        go_wp2_with fail
        go_ret
        exact ⟨rfl, HB1⟩
      rw [if_neg hl]
      have hn24 : v.kind = 24 → 0 ≤ v.n ∧ v.n ≤ 24 := by
        intro h24
        unfold shapedP at hs
        rw [if_pos h24] at hs
        simp at hs
        omega
      have HN24 := Lib.hid hn24
      clear hs hn24
      have hkf := fun (W : World) (hW : kV.C W A v.items.length v.items) => (P.keys_fin v HV.out).get.elim fun q hq => Q.amqvalue_keys.calls q v.kind v.n v.text A cp v.items _ W hW hcp hq
      obtain ⟨R, hR⟩ : ∃ R, R = (if chkL (most - 1) v.kind v.n v.items = 0 then keysP v.kind v.items else chkL (most - 1) v.kind v.n v.items) := ⟨_, rfl⟩
      rw [← hR]
      have HRR := Lib.hid hR
      clear hR
      have HKF := Lib.hid hkf
      clear hkf
      go_enter Tryd.func109, Tryd.ntmps109
      go_wp2_with fail
      refine (Q.amqvalue_shaped.calls v.kind v.n v.text _ _ v.items true _ (Kd.C_alloc HC.out _) hcp HS.out).mono ?_
      rintro e w1 ⟨rfl, hb1⟩
      have HB1 := below_step (below_new _ _) hb1
      obtain ⟨hc1, hf1⟩ := kept_cells hb1
      have hz1 := new_lt hb1
      have hs0 : w1.cell? ⟨w.heap.size, 0, none⟩ = some (.int .i64 v.kind) := pw_cell_below hb1 (new_cell w _ _ 0)
      have hs1 : w1.cell? ⟨w.heap.size, 1, none⟩ = some (.int .u64 v.n) := pw_cell_below hb1 (new_cell w _ _ 1)
      have hs2 : w1.cell? ⟨w.heap.size, 2, none⟩ = some (.string v.text) := pw_cell_below hb1 (new_cell w _ _ 2)
      have hs3 : w1.cell? ⟨w.heap.size, 3, none⟩ = some (.slice A v.items.length cp) := pw_cell_below hb1 (new_cell w _ _ 3)
      have hcl1 : w1.cell? ⟨gb, 0, none⟩ = some (.func (.func 109) #[] #[.pointer (some ⟨gb, 0, none⟩)]) := pw_cell_below HB1 hcl
      have HC1 := Lib.hid (Kd.C_below HC.out HB1)
      have HT1 := Lib.hid (HT.out.below HB1)
      have hgw : gb < w.heap.size := World.block_lt_of_cell? w ⟨gb, 0, none⟩ hcl
      clear hcl hc1 hf1 hb1
      go_wp2_with fail
      go_loopw [39] (fun iv wr => ∃ j : Nat, j ≤ v.items.length ∧ iv = .int .i64 j ∧ Hid (chkL (most - 1) v.kind v.n (v.items.take j) = 0) ∧ Below w1.heap.size w1 wr) (fun iv _ => v.items.length - (intOf iv).toNat)
      case atStart => exact ⟨0, Nat.zero_le _, rfl, Lib.hid (by simp [chkL]), Below.refl _ _⟩
      case round =>
        obtain ⟨j, hj, rfl, HR, hbr⟩ := hrel
        have k0 := pw_cell_below hbr hs0
        have k1 := pw_cell_below hbr hs1
        have k2 := pw_cell_below hbr hs2
        have k3 := pw_cell_below hbr hs3
        have kc := pw_cell_below hbr hcl1
        have hzr : w.heap.size < wr.heap.size := Nat.lt_of_lt_of_le hz1 hbr.size
        have hzg : gb < wr.heap.size := by omega
        clear hs0 hs1 hs2 hs3 hcl1
        by_cases hjl : j < v.items.length
        · obtain ⟨y, ad, A3, c3, hy, rfl, q0, q1, q2, q3, l3, g3⟩ := atVn (Kd.C_below HC1.out hbr) j hjl
          have hye : v.items[j] = y := by rw [List.getElem?_eq_getElem hjl] at hy; exact Option.some.inj hy
          have hyk := (HV.out.its y (List.mem_of_getElem? hy)).kd
          have HY := Lib.hid (And.intro hye (And.intro g3 (And.intro (HV.out.its y (List.mem_of_getElem? hy)) (List.mem_of_getElem? hy))))
          have hat := chkL_at (most - 1) v.kind v.n v.items j hjl HR.out
          rw [hye] at hat
          have HAT := Lib.hid hat
          clear hy hye g3 hat
          have hm1 : ((most : Int) - 1) = ((most - 1 : Nat) : Int) := by omega
          have hi := fun W hW hW2 hW3 => ih y (most - 1) W A3 c3 gb (by have := P.size_item HY.out.2.2.2; have := HN.out; omega) HY.out.2.2.1 (by omega) hW hW2 l3 hW3
          rw [← hm1] at hi
          have HI := Lib.hid hi
          clear hi hm1
          have hb0 : (v.kind == 24 ∧ (IntKind.u64.wrap y.kind != v.n)) ∨ (v.kind == 24 ∧ (IntKind.u64.wrap y.kind != v.n) = false) ∨ (v.kind == 24) = false := by
            cases v.kind == 24 <;> cases IntKind.u64.wrap y.kind != v.n <;> simp
          rcases hb0 with ⟨hb24, hcn⟩ | hb0
          · have h8 : R = 8 := by
              have h24 : v.kind = 24 := by simpa using hb24
              have hcv := conv_kind y.kind v.n hyk.1 hyk.2 (HN24.out h24).1 (HN24.out h24).2
              have hyn : y.kind ≠ v.n := by
                intro e
                rw [decide_eq_true e] at hcv
                rw [bne, hcv] at hcn
                cases hcn
              have e8 : chkL (most - 1) v.kind v.n v.items = 8 := by rw [HAT.out, if_pos ⟨h24, hyn⟩]
              rw [HRR.out, e8]
              rfl
            have HA8 := Lib.hid h8
            clear h8
            go_wp2_with fail
            go_ret
            exact ⟨ret_i HA8.out.symm, below_alloc (below_step HB1 hbr) _⟩
          · have hno : ¬ (v.kind = 24 ∧ y.kind ≠ v.n) := by
              rintro ⟨h24, hyn⟩
              have hcv := conv_kind y.kind v.n hyk.1 hyk.2 (HN24.out h24).1 (HN24.out h24).2
              rw [decide_eq_false hyn] at hcv
              rcases hb0 with ⟨_, h⟩ | h
              · rw [bne, hcv] at h
                cases h
              · rw [beq_eq_false_iff_ne] at h
                exact h h24
            have HNO := Lib.hid hno
            clear hno
            rcases hb0 with ⟨hb24, hcn⟩ | hb24
            all_goals
              go_wp2_with fail
              refine (HI.out _ (((HT1.out.below hbr).alloc _)) (Kd.C_alloc HY.out.2.1 _) (by first | exact Lib.cell?_alloc_some _ kc | exact kc)).mono ?_
              rintro e w2 ⟨rfl, hb2⟩
              have HB2 := below_step (below_alloc hbr _) hb2
              by_cases hz : chkV (most - 1) y = 0
              · rw [hz]
                have HNX := Lib.hid (chkL_take (most - 1) v.kind v.n v.items j hjl HR.out (by rw [HY.out.1]; exact HNO.out) (by rw [HY.out.1]; exact hz))
                clear hz
                go_wp2_with fail
                refine ⟨⟨j + 1, by omega, by go_num, HNX, HB2⟩, by simp [intOf]; omega⟩
              · have hR2 : R = chkV (most - 1) y := by
                  have e8 : chkL (most - 1) v.kind v.n v.items = chkV (most - 1) y := by rw [HAT.out, if_neg HNO.out, if_neg hz]
                  rw [HRR.out, e8, if_neg hz]
                have HR2 := Lib.hid hR2
                clear hR2
                generalize chkV (most - 1) y = c at *
                go_wp2_with fail
                go_ret
                exact ⟨ret_i HR2.out.symm, below_step HB1 HB2⟩
        · obtain rfl : j = v.items.length := by omega
          have h0 := HR.out
          rw [List.take_length] at h0
          have hRk : R = keysP v.kind v.items := by rw [HRR.out, if_pos h0]
          have HRK := Lib.hid hRk
          clear hRk h0
          go_wp2_with fail
          refine (HKF.out _ (Kd.C_below HC1.out hbr)).mono ?_
          rintro e w2 ⟨rfl, hb2⟩
          have HB2 := below_step hbr hb2
          go_wp2_with fail
          go_ret
          exact ⟨ret_i HRK.out.symm, below_step HB1 HB2⟩
set_option maxRecDepth 100000 in
set_option maxHeartbeats 4000000 in
theorem vcheck_calls (v : Vl) (hv : P.Ok v) (most : Int) (w : World) (A : Option Addr) (cp : Nat) (hT : Tb w) (hC : kV.C w A v.items.length v.items) (hcp : v.items.length ≤ cp) :
    Calls Tryd.prog 49 #[.agg #[.int .i64 v.kind, .int .u64 v.n, .string v.text, .slice A v.items.length cp], .int .i64 most] w fun e w' => e = .returned (.int .i64 (chkM most v)) ∧ Below w.heap.size w w' := by
  have HT := Lib.hid hT
  have HC := Lib.hid hC
  have HV := Lib.hid hv
  clear hT hC hv
  have hm := P.mostRight_some most
  by_cases h : 0 ≤ most ∧ most ≤ 32
  · have hR : chkM most v = chkV most.toNat v := if_pos h
    rw [hR]
    clear hR
    rw [decide_eq_true h] at hm
    have HM := Lib.hid hm
    clear hm
    obtain ⟨m, rfl⟩ := Int.eq_ofNat_of_zero_le h.1
    rw [Int.toNat_natCast]
    have hm32 : m ≤ 32 := by omega
    clear h
    go_enter Tryd.func49, Tryd.ntmps49
    go_wp2_with fail
    refine (Q.amqvalue_mostRight.calls _ true _ HM.out).mono ?_
    rintro e w1 ⟨rfl, ⟨n1, rfl⟩⟩
    go_wp2_with fail
    refine (look_calls _ v m _ A cp _ (Nat.lt_succ_self _) HV.out hm32 ?hT ?hC hcp ?hcell).mono ?_
    case hT => exact HT.out.below (below_alloc (pw_below_drewN (below_alloc (Below.refl _ _) _) _) _)
    case hC => exact Kd.C_alloc (Kd.C_drewN (Kd.C_alloc HC.out _) _) _
    case hcell => exact new_cell' _ _ _ 0 (by show (w.alloc _).heap.size = _; simp)
    rintro e w2 ⟨rfl, hb2⟩
    go_wp2_with fail
    go_ret
    exact ⟨rfl, below_step (below_alloc (pw_below_drewN (below_alloc (Below.refl _ _) _) _) _) hb2⟩
  · have hR : chkM most v = 2 := if_neg h
    rw [hR]
    clear hR
    rw [decide_eq_false h] at hm
    have HM := Lib.hid hm
    clear hm h
    go_enter Tryd.func49, Tryd.ntmps49
    go_wp2_with fail
    refine (Q.amqvalue_mostRight.calls _ false _ HM.out).mono ?_
    rintro e w1 ⟨rfl, ⟨n1, rfl⟩⟩
    go_wp2_with fail
    go_ret
    exact ⟨rfl, pw_below_drewN (below_alloc (Below.refl _ _) _) _⟩
end Go.Proofs.YtekpofpgkokoiaaDoor.M
