/- A part of this claim: what its theorem leans on. -/
import Derived.Test.YtekpofpgkokoiaaDoorZVc
import Derived.Test.YtekpofpgkokoiaaDoorZGp
import Derived.Test.YtekpofpgkokoiaaDoorZRp
import Derived.Lib.Strings
import Derived.Test.YtekpofpgkokoiaaDoorZQocteta
import Derived.Test.YtekpofpgkokoiaaDoorZQamqprima
set_option linter.unusedVariables false
set_option linter.unusedSimpArgs false
namespace Go.Proofs.YtekpofpgkokoiaaDoor.M
open Go.RowKit Go.Proofs.YtekpofpgkokoiaaDoorW.PrintWords
def RdT (w : World) (r1 r2 : Int) (r3 : ByteArray) (r4 : List Vl) (r5 r6 : Int) (e : Ending) (w' : World) : Prop := ∃ A c, e = .returned (.tuple #[.agg #[.int .i64 r1, .int .u64 r2, .string r3, .slice A r4.length c], .int .i64 r5, .int .i64 r6]) ∧
  Kd.R kV 25 w' w.heap.size (fun _ => True) (.slice A r4.length c) r4 ∧ Below w.heap.size w w'
def RdPost (w : World) (r : Rd) (e : Ending) (w' : World) : Prop := ∃ r1 r2 r3 r4 r5 r6, P.outR r = (r1, r2, r3, r4, r5, r6) ∧ RdT w r1 r2 r3 r4 r5 r6 e w'
theorem R_set {e b g i : Nat} {W1 : World} {v : Value} {xs : List Vl} (h : Kd.R kV e W1 b (fun _ => True) v xs) (hg : g < b) (u : Value) : Kd.R kV e (W1.setCell ⟨g, i, none⟩ u) b (fun _ => True) v xs :=
  Kd.R_mono (Kd.R_far (p := ⟨g, i, none⟩) (Kd.R_bound h) (fun k hk => by show k ≠ g; have := hk.2.1; omega) u) (fun _ _ => trivial)
theorem rdPost_fail {w W : World} {r : Rd} {x : Int} (hr : r = .error x) (hb : Below w.heap.size w W) : RdPost w r (.returned (.tuple #[.agg #[.int .i64 0, .int .u64 0, .string ⟨#[]⟩, .slice none 0 0], .int .i64 0, .int .i64 x])) W := by
  subst hr
  exact ⟨_, _, _, _, _, _, rfl, none, 0, rfl, Kd.R_nil _ _ _ _ _, hb⟩
theorem rdPost_put {w W : World} {r : Rd} {b g : Nat} {A : Option Addr} {c : Nat} {r1 r2 : Int} {r3 : ByteArray} {r4 : List Vl} {r5 r6 : Int} (hr : P.outR r = (r1, r2, r3, r4, r5, r6)) (hR : Kd.R kV 25 W b (fun _ => True) (.slice A r4.length c) r4) (hB : Below w.heap.size w W) (hb : w.heap.size ≤ b) (hg : g < b) (hg0 : w.heap.size ≤ g) :
    RdPost w r (.returned (.tuple #[.agg #[.int .i64 r1, .int .u64 r2, .string r3, .slice A r4.length c], .int .i64 r5, .int .i64 r6])) ((((W.setCell ⟨g, 0, none⟩ (.int .i64 r1)).setCell ⟨g, 1, none⟩ (.int .u64 r2)).setCell ⟨g, 2, none⟩ (.string r3)).setCell ⟨g, 3, none⟩ (.slice A r4.length c)) :=
  ⟨_, _, _, _, _, _, hr, A, c, rfl, Kd.R_lower (R_set (R_set (R_set (R_set hR hg _) hg _) hg _) hg _) hb, below_put4 hB hg0 _ _ _ _⟩
theorem RdPost.alloc {w W : World} {r : Rd} {e : Ending} (h : RdPost w r e W) (o : Obj) : RdPost w r e (W.alloc o) := by
  obtain ⟨r1, r2, r3, r4, r5, r6, h0, A, c, h1, h2, h3⟩ := h
  exact ⟨r1, r2, r3, r4, r5, r6, h0, A, c, h1, Kd.R_alloc h2 o, below_alloc h3 o⟩
theorem ofC_some {code : Int} {c : Ct} (h : ofO code = some c) : ofC code = c ∧ ofB code = true := by
  unfold ofC ofB
  rw [h]
  exact ⟨rfl, rfl⟩
theorem dataE_some {code : Int} {c : Ct} (m : Nat) (s : Bs) (ho : ofO code = some c) : dataE m code s = if c.items = false then getE code s else match m with | 0 => .error 14 | m + 1 => if c.kind = 25 then descE (dataE m) s else if c.sized = false then .ok (⟨c.kind, 0, ofBs [], []⟩, 0) else sizedE (dataE m) c s := by
  conv => lhs; unfold dataE
  rw [ho]
  cases m <;> rfl
set_option maxRecDepth 100000 in
set_option maxHeartbeats 4000000 in
theorem vdata_calls (m : Nat) (hm : m ≤ 32) (code : Int) (s : ByteArray) (hs : s.size ≤ 140737488351232)
    (HD : ∀ m', m = m' + 1 → ∀ W, Tb W → Calls Tryd.prog 112 #[.string s, .int .i64 m] W fun e w' => RdPost W (descE (dataE m') s.data.toList) e w')
    (HS : ∀ m', m = m' + 1 → ∀ c, ofO code = some c → c.items = true → c.kind ≠ 25 → c.sized = true → ∀ W, Tb W → Calls Tryd.prog 113 #[.agg #[.int .i64 c.code, .int .i64 c.kind, .int .i64 c.width, .bool c.sized, .bool c.items], .string s, .int .i64 m] W fun e w' => RdPost W (sizedE (dataE m') c s.data.toList) e w')
    (w : World) (hT : Tb w) :
    Calls Tryd.prog 52 #[.int .i64 code, .string s, .int .i64 m] w fun e w' => RdPost w (dataE m code s.data.toList) e w' := by
  have HT := Lib.hid hT
  clear hT
  have hm0 := P.mostRight_some m
  rw [decide_eq_true (⟨by omega, by omega⟩ : (0 : Int) ≤ m ∧ (m : Int) ≤ 32)] at hm0
  have HM := Lib.hid hm0
  clear hm0
  have HHD := Lib.hid HD
  have HHS := Lib.hid HS
  clear HD HS
  have hof := fun W => Of_calls code W
  cases ho : ofO code with
  | none =>
    have h1 : ofC code = zC := by unfold ofC; rw [ho]; rfl
    have h2 : ofB code = false := by unfold ofB; rw [ho]; rfl
    have hr : dataE m code s.data.toList = .error 8 := by unfold dataE; rw [ho]
    have HR := Lib.hid hr
    rw [h1, h2] at hof
    clear h1 h2 hr ho
    go_enter Tryd.func52, Tryd.ntmps52
    go_wp2_with fail
    refine (Q.amqvalue_mostRight.calls _ true _ HM.out).mono ?_
    rintro e w1 ⟨rfl, ⟨n1, rfl⟩⟩
    go_wp2_with fail
    refine (hof _).mono ?_
    rintro e w2 ⟨rfl, hb2⟩
    have HB2 := below_step (pw_below_drewN (below_new _ _) _) hb2
    obtain ⟨hc2, hf2⟩ := kept_cells hb2
    have hz2 : w.heap.size < w2.heap.size := new_ltN hb2
    have hne : w.heap.size ≠ w2.heap.size := Nat.ne_of_lt hz2
    have BK := Lib.hid (blk_below (blk_drewN (blk_new w (Obj.cells #[Value.int IntKind.i64 0, Value.int IntKind.u64 0, Value.string ⟨#[]⟩, Value.slice none 0 0] 25)) n1) hb2)
    have HBB := Lib.hid HB2
    clear HB2 hb2
    go_wp2_with fail
    refine bodyPost_ret (results_ctt rfl _ _ w.heap.size 25 _ (0, 0) _ rfl (blk_alloc (put4 BK.out _ _ _ _) _) Tryd.underlying25 rfl (by kernel_rfl)) rfl ?_
    exact (rdPost_fail HR.out (below_put4 HBB.out (Nat.le_refl _) _ _ _ _)).alloc _
  | some c =>
    obtain ⟨h1, h2⟩ := ofC_some ho
    rw [h1, h2] at hof
    clear h1 h2
    have hr := dataE_some m s.data.toList ho
    obtain ⟨ccd, ckd, cwd, csz, cit⟩ := c
    by_cases hi : cit = false
    · rw [if_pos hi] at hr
      have HR := Lib.hid hr
      obtain ⟨k, hk⟩ := (P.get_fin code s hs).get
      obtain ⟨⟨r1, r2, r3, r4, r5, r6⟩, hrr⟩ : ∃ x, P.outR (getE code s.data.toList) = x := ⟨_, rfl⟩
      rw [hrr] at hk
      have HRR := Lib.hid hrr
      have hg := fun W hW => Q.amqprim_Get.calls k code s _ _ _ _ _ _ W hW hk
      clear hr ho hk hrr
      subst hi
      rw [HR.out]
      have HG := Lib.hid hg
      clear hg
      go_enter Tryd.func52, Tryd.ntmps52
      go_wp2_with fail
      refine (Q.amqvalue_mostRight.calls _ true _ HM.out).mono ?_
      rintro e w1 ⟨rfl, ⟨n1, rfl⟩⟩
      go_wp2_with fail
      refine (hof _).mono ?_
      rintro e w2 ⟨rfl, hb2⟩
      have HB2 := below_step (pw_below_drewN (below_new _ _) _) hb2
      obtain ⟨hc2, hf2⟩ := kept_cells hb2
      have hz2 : w.heap.size < w2.heap.size := new_ltN hb2
      have hne : w.heap.size ≠ w2.heap.size := Nat.ne_of_lt hz2
      have BK := Lib.hid (blk_below (blk_drewN (blk_new w (Obj.cells #[Value.int IntKind.i64 0, Value.int IntKind.u64 0, Value.string ⟨#[]⟩, Value.slice none 0 0] 25)) n1) hb2)
      have HBB := Lib.hid HB2
      clear HB2 hb2
      go_wp2_with fail
      refine (HG.out _ ?hT).mono ?_
      case hT => exact (HT.out.below HBB.out).alloc _
      rintro e w3 ⟨v3, rfl, ho3, hb3⟩
      obtain ⟨A3, c3, rfl⟩ := Kd.R_slice ho3
      obtain ⟨hc3, hf3⟩ := kept_cells hb3
      have BK3 := Lib.hid (blk_below (blk_alloc BK.out _) hb3)
      have HB3 := Lib.hid (below_step (below_alloc HBB.out _) hb3)
      have hz3 : w.heap.size < w3.heap.size := Nat.lt_of_lt_of_le hz2 (Nat.le_of_lt (new_lt hb3))
      have hle3 : w.heap.size < (w2.alloc (Obj.cells #[.int .i64 ccd, .int .i64 ckd, .int .i64 cwd, .bool csz, .bool false] 34)).heap.size := by simp; omega
      have HO3 := Lib.hid ho3
      clear ho3 hb3
      go_wp2_with fail
      refine bodyPost_ret (results_ctt rfl _ _ w.heap.size 25 _ (0, 0) _ rfl (put4 BK3.out _ _ _ _) Tryd.underlying25 rfl (by kernel_rfl)) rfl ?_
      exact rdPost_put HRR.out HO3.out HB3.out (Nat.le_of_lt hle3) hle3 (Nat.le_refl _)
    · rw [if_neg hi] at hr
      have hit : cit = true := by cases cit <;> simp at hi ⊢
      subst hit
      clear hi
      cases m with
      | zero =>
        have HR := Lib.hid hr
        clear hr ho
        go_enter Tryd.func52, Tryd.ntmps52
        go_wp2_with fail
        refine (Q.amqvalue_mostRight.calls _ true _ HM.out).mono ?_
        rintro e w1 ⟨rfl, ⟨n1, rfl⟩⟩
        go_wp2_with fail
        refine (hof _).mono ?_
        rintro e w2 ⟨rfl, hb2⟩
        have HB2 := below_step (pw_below_drewN (below_new _ _) _) hb2
        obtain ⟨hc2, hf2⟩ := kept_cells hb2
        have hz2 : w.heap.size < w2.heap.size := new_ltN hb2
        have hne : w.heap.size ≠ w2.heap.size := Nat.ne_of_lt hz2
        have BK := Lib.hid (blk_below (blk_drewN (blk_new w (Obj.cells #[Value.int IntKind.i64 0, Value.int IntKind.u64 0, Value.string ⟨#[]⟩, Value.slice none 0 0] 25)) n1) hb2)
        have HBB := Lib.hid HB2
        clear HB2 hb2
        go_wp2_with fail
        refine bodyPost_ret (results_ctt rfl _ _ w.heap.size 25 _ (0, 0) _ rfl (blk_alloc (put4 BK.out _ _ _ _) _) Tryd.underlying25 rfl (by kernel_rfl)) rfl ?_
        exact (rdPost_fail HR.out (below_put4 HBB.out (Nat.le_refl _) _ _ _ _)).alloc _
      | succ m1 =>
        by_cases hk : ckd = 25
        · subst hk
          have hr2 : dataE (m1 + 1) code s.data.toList = descE (dataE m1) s.data.toList := by rw [hr]; exact if_pos rfl
          rw [hr2]
          have hg := HHD.out m1 rfl
          clear hr hr2 ho
          have HG := Lib.hid hg
          clear hg
          go_enter Tryd.func52, Tryd.ntmps52
          go_wp2_with fail
          refine (Q.amqvalue_mostRight.calls _ true _ HM.out).mono ?_
          rintro e w1 ⟨rfl, ⟨n1, rfl⟩⟩
          go_wp2_with fail
          refine (hof _).mono ?_
          rintro e w2 ⟨rfl, hb2⟩
          have HB2 := below_step (pw_below_drewN (below_new _ _) _) hb2
          obtain ⟨hc2, hf2⟩ := kept_cells hb2
          have hz2 : w.heap.size < w2.heap.size := new_ltN hb2
          have hne : w.heap.size ≠ w2.heap.size := Nat.ne_of_lt hz2
          have BK := Lib.hid (blk_below (blk_drewN (blk_new w (Obj.cells #[Value.int IntKind.i64 0, Value.int IntKind.u64 0, Value.string ⟨#[]⟩, Value.slice none 0 0] 25)) n1) hb2)
          have HBB := Lib.hid HB2
          clear HB2 hb2
          go_wp2_with fail
          refine (HG.out _ ?hT).mono ?_
          case hT => exact (HT.out.below HBB.out).alloc _
          rintro e w3 ⟨r1, r2, r3, r4, r5, r6, hrr, A3, c3, rfl, ho3, hb3⟩
          have HRR := Lib.hid hrr
          clear hrr
          obtain ⟨hc3, hf3⟩ := kept_cells hb3
          have BK3 := Lib.hid (blk_below (blk_alloc BK.out _) hb3)
          have HB3 := Lib.hid (below_step (below_alloc HBB.out _) hb3)
          have hz3 : w.heap.size < w3.heap.size := Nat.lt_of_lt_of_le hz2 (Nat.le_of_lt (new_lt hb3))
          have hle3 : w.heap.size < (w2.alloc (Obj.cells #[.int .i64 ccd, .int .i64 25, .int .i64 cwd, .bool csz, .bool true] 34)).heap.size := by simp; omega
          have HO3 := Lib.hid ho3
          clear ho3 hb3
          go_wp2_with fail
          refine bodyPost_ret (results_ctt rfl _ _ w.heap.size 25 _ (0, 0) _ rfl (put4 BK3.out _ _ _ _) Tryd.underlying25 rfl (by kernel_rfl)) rfl ?_
          exact rdPost_put HRR.out HO3.out HB3.out (Nat.le_of_lt hle3) hle3 (Nat.le_refl _)
        · have hr2 : dataE (m1 + 1) code s.data.toList = if csz = false then .ok (⟨ckd, 0, ofBs [], []⟩, 0) else sizedE (dataE m1) ⟨ccd, ckd, cwd, csz, true⟩ s.data.toList := by rw [hr]; exact if_neg hk
          cases csz with
          | false =>
            rw [if_pos rfl] at hr2
            have HR := Lib.hid hr2
            clear hr hr2 ho
            go_enter Tryd.func52, Tryd.ntmps52
            go_wp2_with fail
            refine (Q.amqvalue_mostRight.calls _ true _ HM.out).mono ?_
            rintro e w1 ⟨rfl, ⟨n1, rfl⟩⟩
            go_wp2_with fail
            refine (hof _).mono ?_
            rintro e w2 ⟨rfl, hb2⟩
            have HB2 := below_step (pw_below_drewN (below_new _ _) _) hb2
            obtain ⟨hc2, hf2⟩ := kept_cells hb2
            have hz2 : w.heap.size < w2.heap.size := new_ltN hb2
            have hne : w.heap.size ≠ w2.heap.size := Nat.ne_of_lt hz2
            have BK := Lib.hid (blk_below (blk_drewN (blk_new w (Obj.cells #[Value.int IntKind.i64 0, Value.int IntKind.u64 0, Value.string ⟨#[]⟩, Value.slice none 0 0] 25)) n1) hb2)
            have HBB := Lib.hid HB2
            clear HB2 hb2
            go_wp2_with fail
            refine bodyPost_ret (results_ctt rfl _ _ w.heap.size 25 _ (0, 0) _ rfl (blk_alloc (put4 BK.out _ _ _ _) _) Tryd.underlying25 rfl (by kernel_rfl)) rfl ?_
            rw [HR.out]
            exact RdPost.alloc ⟨_, _, _, _, _, _, rfl, none, 0, rfl, Kd.R_nil _ _ _ _ _, below_put4 HBB.out (Nat.le_refl _) _ _ _ _⟩ _
          | true =>
            rw [if_neg (by simp)] at hr2
            rw [hr2]
            have hg := HHS.out m1 rfl _ ho rfl hk rfl
            clear hr hr2 ho
            have HG := Lib.hid hg
            clear hg
            go_enter Tryd.func52, Tryd.ntmps52
            go_wp2_with fail
            refine (Q.amqvalue_mostRight.calls _ true _ HM.out).mono ?_
            rintro e w1 ⟨rfl, ⟨n1, rfl⟩⟩
            go_wp2_with fail
            refine (hof _).mono ?_
            rintro e w2 ⟨rfl, hb2⟩
            have HB2 := below_step (pw_below_drewN (below_new _ _) _) hb2
            obtain ⟨hc2, hf2⟩ := kept_cells hb2
            have hz2 : w.heap.size < w2.heap.size := new_ltN hb2
            have hne : w.heap.size ≠ w2.heap.size := Nat.ne_of_lt hz2
            have BK := Lib.hid (blk_below (blk_drewN (blk_new w (Obj.cells #[Value.int IntKind.i64 0, Value.int IntKind.u64 0, Value.string ⟨#[]⟩, Value.slice none 0 0] 25)) n1) hb2)
            have HBB := Lib.hid HB2
            clear HB2 hb2
            go_wp2_with fail
            refine (HG.out _ ?hT).mono ?_
            case hT => exact (HT.out.below HBB.out).alloc _
            rintro e w3 ⟨r1, r2, r3, r4, r5, r6, hrr, A3, c3, rfl, ho3, hb3⟩
            have HRR := Lib.hid hrr
            clear hrr
            obtain ⟨hc3, hf3⟩ := kept_cells hb3
            have BK3 := Lib.hid (blk_below (blk_alloc BK.out _) hb3)
            have HB3 := Lib.hid (below_step (below_alloc HBB.out _) hb3)
            have hz3 : w.heap.size < w3.heap.size := Nat.lt_of_lt_of_le hz2 (Nat.le_of_lt (new_lt hb3))
            have hle3 : w.heap.size < (w2.alloc (Obj.cells #[.int .i64 ccd, .int .i64 ckd, .int .i64 cwd, .bool true, .bool true] 34)).heap.size := by simp; omega
            have HO3 := Lib.hid ho3
            clear ho3 hb3
            go_wp2_with fail
            refine bodyPost_ret (results_ctt rfl _ _ w.heap.size 25 _ (0, 0) _ rfl (put4 BK3.out _ _ _ _) Tryd.underlying25 rfl (by kernel_rfl)) rfl ?_
            exact rdPost_put HRR.out HO3.out HB3.out (Nat.le_of_lt hle3) hle3 (Nat.le_refl _)
theorem str_cons (s : ByteArray) (h : 0 < s.size) : s.data.toList = s[0] :: (s.extract 1 s.size).data.toList := by
  have hl : 0 < s.data.toList.length := by rw [P.len_list]; exact h
  rw [P.ext_list]
  have e := List.drop_eq_getElem_cons hl
  rw [List.drop_zero] at e
  rw [List.take_of_length_le (by rw [P.len_list]; omega)]
  exact e
theorem rd_nil (m : Nat) : rdE m [] = .error 3 := rfl
set_option maxRecDepth 100000 in
set_option maxHeartbeats 4000000 in
theorem vread_calls (m : Nat) (hm : m ≤ 32) (s : ByteArray) (hs : s.size ≤ 140737488351232)
    (HDt : ∀ (code : Int) (t : ByteArray), t.size ≤ 140737488351232 → ∀ W, Tb W → Calls Tryd.prog 52 #[.int .i64 code, .string t, .int .i64 m] W fun e w' => RdPost W (dataE m code t.data.toList) e w')
    (w : World) (hT : Tb w) :
    Calls Tryd.prog 30 #[.string s, .int .i64 m] w fun e w' => RdPost w (rdE m s.data.toList) e w' := by
  have HT := Lib.hid hT
  clear hT
  have hm0 := P.mostRight_some m
  rw [decide_eq_true (⟨by omega, by omega⟩ : (0 : Int) ≤ m ∧ (m : Int) ≤ 32)] at hm0
  have HM := Lib.hid hm0
  clear hm0
  have HHD := Lib.hid HDt
  clear HDt
  by_cases h0 : s.size = 0
  · have hs0 : s = ⟨#[]⟩ := by
      apply ByteArray.ext
      exact Array.eq_empty_of_size_eq_zero h0
    subst hs0
    have HR := Lib.hid (rd_nil m)
    clear h0 hs
    go_enter Tryd.func30, Tryd.ntmps30
    go_wp2_with fail
    refine (Q.amqvalue_mostRight.calls _ true _ HM.out).mono ?_
    rintro e w1 ⟨rfl, ⟨n1, rfl⟩⟩
    have BK := Lib.hid (blk_drewN (blk_new w (Obj.cells #[Value.int IntKind.i64 0, Value.int IntKind.u64 0, Value.string ⟨#[]⟩, Value.slice none 0 0] 25)) n1)
    have HBB := Lib.hid (pw_below_drewN (below_new w (Obj.cells #[Value.int IntKind.i64 0, Value.int IntKind.u64 0, Value.string ⟨#[]⟩, Value.slice none 0 0] 25)) n1)
    go_wp2_with fail
    refine bodyPost_ret (results_ctt rfl _ _ w.heap.size 25 _ (0, 0) _ rfl (put4 BK.out _ _ _ _) Tryd.underlying25 rfl (by kernel_rfl)) rfl ?_
    exact rdPost_fail HR.out (below_put4 HBB.out (Nat.le_refl _) _ _ _ _)
  · have hs1 : s.toList.isEmpty = false := by
      rw [Lib.toList_data]
      cases h : s.data.toList with
      | nil => exact absurd (by show s.data.size = 0; rw [← Array.length_toList, h]; rfl) h0
      | cons b l => rfl
    have hs2 : 0 < s.size := by omega
    have hs3 : (1 : Int) ≤ (s.size : Int) := by omega
    have hs4 : (0 : Int) < (s.size : Int) := by omega
    go_enter Tryd.func30, Tryd.ntmps30
    go_wp2_with fail
    refine (Q.amqvalue_mostRight.calls _ true _ HM.out).mono ?_
    rintro e w1 ⟨rfl, ⟨n1, rfl⟩⟩
    have HL := Lib.hid (str_cons s hs2)
    have hb8 : wrap64 (s[0].toNat : Int) = (s[0].toNat : Int) := by have := s[0].toNat_lt; unfold wrap64; omega
    have hb9 : IntKind.i64.wrap (s[0].toNat : Int) = (s[0].toNat : Int) := by have := s[0].toNat_lt; simp [IntKind.wrap, IntKind.bits, IntKind.signed]; omega
    have HSZ : Hid ((s.extract 1 s.size).size ≤ 140737488351232) := Lib.hid (by rw [P.ext_size' _ _ _ (Nat.le_refl _)]; omega)
    go_wp2_with fail
    go_region_held3 (fun w' => True) (exact trivial) ((go_at_call 52; refine (HHD.out _ _ ?hsz _ ?hT).mono ?_; (case hsz => exact HSZ.out); (case hT => exact HT.out.below (pw_below_drewN (below_new _ _) _)); (rintro e w3 ⟨r1, r2, r3, r4, r5, r6, hrr, A3, c3, rfl, ho3, hb3⟩); obtain ⟨hc3, hf3⟩ := kept_cells hb3; have HRR := Lib.hid hrr; have BK3 := Lib.hid (blk_below (blk_drewN (blk_new w (Obj.cells #[Value.int IntKind.i64 0, Value.int IntKind.u64 0, Value.string ⟨#[]⟩, Value.slice none 0 0] 25)) _) hb3); have HB3 := Lib.hid (below_step (pw_below_drewN (below_new w (Obj.cells #[Value.int IntKind.i64 0, Value.int IntKind.u64 0, Value.string ⟨#[]⟩, Value.slice none 0 0] 25) ) _) hb3); have hz3 : w.heap.size < w3.heap.size := new_ltN hb3; have HO3 := Lib.hid ho3; clear hrr ho3 hb3))
    all_goals
      have hgood := dataE_good m (s[0].toNat : Int) (s.extract 1 s.size).data.toList
      have hrr := HRR.out
      have hrd : rdE m s.data.toList = match dataE m (s[0].toNat : Int) (s.extract 1 s.size).data.toList with | .error e => .error e | .ok (v, k) => .ok (v, k + 1) := by rw [HL.out]; rfl
      first | rw [hb9] at hrr | skip
      cases hd : dataE m (s[0].toNat : Int) (s.extract 1 s.size).data.toList with
      | error e =>
        rw [hd] at hrr hgood hrd
        simp only [P.outR, Prod.mk.injEq] at hrr
        obtain ⟨rfl, rfl, rfl, rfl, rfl, rfl⟩ := hrr
        have hne : e ≠ 0 := hgood
        have HR := Lib.hid hrd
        clear hgood hd hrd HRR
        go_wp2_with fail
        refine bodyPost_ret (results_ctt rfl _ _ w.heap.size 25 _ (0, 0) _ rfl (put4 (put4 BK3.out _ _ _ _) _ _ _ _) Tryd.underlying25 rfl (by kernel_rfl)) rfl ?_
        exact rdPost_fail HR.out (below_put4 (below_put4 HB3.out (Nat.le_refl _) _ _ _ _) (Nat.le_refl _) _ _ _ _)
      | ok q =>
        obtain ⟨v, k⟩ := q
        rw [hd] at hrr hgood hrd
        simp only [P.outR, Prod.mk.injEq] at hrr
        obtain ⟨rfl, rfl, rfl, rfl, rfl, rfl⟩ := hrr
        have hk : k ≤ (s.extract 1 s.size).data.toList.length := hgood
        rw [P.len_list] at hk
        have hk2 : wrap64 ((k : Int) + 1) = ((k + 1 : Nat) : Int) := by have := HSZ.out; unfold wrap64; omega
        have HR := Lib.hid hrd
        clear hgood hd hrd HRR hk
        go_wp2_with fail
        refine bodyPost_ret (results_ctt rfl _ _ w.heap.size 25 _ (0, 0) _ rfl (put4 (put4 BK3.out _ _ _ _) _ _ _ _) Tryd.underlying25 rfl (by kernel_rfl)) rfl ?_
        have hle3 : w.heap.size < ((w.alloc (Obj.cells #[Value.int IntKind.i64 0, Value.int IntKind.u64 0, Value.string ⟨#[]⟩, Value.slice none 0 0] 25)).drewN (n1 + 1)).heap.size := by
          show w.heap.size < (w.alloc _).heap.size
          simp
        refine rdPost_put ?_ (R_set (R_set (R_set (R_set HO3.out hle3 _) hle3 _) hle3 _) hle3 _) (below_put4 HB3.out (Nat.le_refl _) _ _ _ _) (Nat.le_of_lt hle3) hle3 (Nat.le_refl _)
        rw [HR.out]
        rfl
end Go.Proofs.YtekpofpgkokoiaaDoor.M
