/- A part of this claim: what its theorem leans on. -/
import Derived.Test.YtekpofpgkokoiaaDoorZVd
import Derived.Test.YtekpofpgkokoiaaDoorZRo
set_option linter.unusedVariables false
set_option linter.unusedSimpArgs false
namespace Go.Proofs.YtekpofpgkokoiaaDoor.M
open Go.RowKit Go.Proofs.YtekpofpgkokoiaaDoorW.PrintWords Go.Proofs.YtekpofpgkokoiaaDoorW.PrintLast Go.Proofs.YtekpofpgkokoiaaDoorW.PrintMore
def ZS (w wr : World) (g : Nat) (t : ByteArray) (p e : Int) (cs3 cs6 : Array Value) : Prop :=
  Q.IsS141 w wr g t p e ∧ Below w.heap.size w wr ∧ wr.heap[w.heap.size]? = some (Obj.cells cs3 34 (0, 0)) ∧ wr.heap[w.heap.size + 1]? = some (Obj.cells cs6 25 (0, 0)) ∧ w.heap.size + 2 ≤ g ∧ g < wr.heap.size
theorem ZS.turn {w wr wr2 : World} {g : Nat} {t t2 : ByteArray} {p e p2 e2 : Int} {cs3 cs6 : Array Value} (h : ZS w wr g t p e cs3 cs6) (hi : Q.IsS141 w wr2 g t2 p2 e2) (hb : Below w.heap.size w wr2) (hk : KeepBut wr wr2 g none) : ZS w wr2 g t2 p2 e2 cs3 cs6 := by
  obtain ⟨h1, h2, h3, h4, h5, h6⟩ := h
  exact ⟨hi, hb, hk.blk h3 (by omega) (by simp), hk.blk h4 (by omega) (by simp), h5, hi.lt⟩
theorem ZS.below {w wr wr2 : World} {g : Nat} {t : ByteArray} {p e : Int} {cs3 cs6 : Array Value} (h : ZS w wr g t p e cs3 cs6) (hb : Below wr.heap.size wr wr2) : ZS w wr2 g t p e cs3 cs6 := by
  obtain ⟨h1, h2, h3, h4, h5, h6⟩ := h
  exact ⟨h1.below hb, below_step h2 hb, blk_below h3 hb, blk_below h4 hb, h5, Nat.lt_of_lt_of_le h6 hb.size⟩
theorem new2 {w w1 : World} {a b : Array Value} {ta tb : TypeId} {g : Nat} {s : ByteArray} (hi : Q.IsS141 ((w.alloc (.cells a ta)).alloc (.cells b tb)) w1 g s 0 0) (hb : Below ((w.alloc (.cells a ta)).alloc (.cells b tb)).heap.size ((w.alloc (.cells a ta)).alloc (.cells b tb)) w1) (h3 : ta = 34) (h6 : tb = 25) :
    ZS w w1 g s 0 0 a b := by
  subst h3 h6
  have e1 : (w.alloc (.cells a 34)).heap.size = w.heap.size + 1 := by simp
  have e2 : ((w.alloc (.cells a 34)).alloc (.cells b 25)).heap.size = w.heap.size + 2 := by simp
  have h2 := blk_new (w.alloc (.cells a 34)) (.cells b 25)
  rw [e1] at h2
  have hge := hi.ge
  rw [e2] at hge
  exact ⟨⟨hi.1, by omega⟩, below_step (below_alloc (below_new _ _) _) hb, blk_below (blk_alloc (blk_new w _) _) hb, blk_below h2 hb, hge, hi.lt⟩
def YS (m : Nat) (w wr : World) (g g1 gb : Nat) (s : ByteArray) (p : Int) (bd : ByteArray) (q e : Int) (cs3 cs6 : Array Value) : Prop :=
  ZS w wr g s p 0 cs3 cs6 ∧ Q.IsS141 w wr g1 bd q e ∧ wr.heap[gb]? = some (Obj.cells #[.pointer (some ⟨g1, 0, none⟩), .int .i64 m] 144 (0, 0)) ∧ g < g1 ∧ g1 < gb
theorem YS.turn {m : Nat} {w wr wr2 : World} {g g1 gb : Nat} {s bd bd2 : ByteArray} {p q e q2 e2 : Int} {cs3 cs6 : Array Value} (h : YS m w wr g g1 gb s p bd q e cs3 cs6) (hi : Q.IsS141 w wr2 g1 bd2 q2 e2) (hb : Below w.heap.size w wr2) (hk : KeepBut wr wr2 g1 none) : YS m w wr2 g g1 gb s p bd2 q2 e2 cs3 cs6 := by
  obtain ⟨⟨h1, h2, h3, h4, h5, h6⟩, h7, h8, h9, h10⟩ := h
  exact ⟨⟨⟨hk.blk h1.1 (by omega) (by simp), h1.2⟩, hb, hk.blk h3 (by omega) (by simp), hk.blk h4 (by omega) (by simp), h5, Nat.lt_of_lt_of_le h6 hk.1⟩, hi, hk.blk h8 (by omega) (by simp), h9, h10⟩
theorem YS.start {m : Nat} {w wr w1 : World} {g g1 : Nat} {s bd : ByteArray} {p : Int} {cs3 cs6 : Array Value} (h : ZS w wr g s p 0 cs3 cs6) (hi : Q.IsS141 wr w1 g1 bd 0 0) (hb : Below wr.heap.size wr w1) : YS m w (w1.alloc (.cells #[.pointer (some ⟨g1, 0, none⟩), .int .i64 m] 144)) g g1 w1.heap.size s p bd 0 0 cs3 cs6 := by
  have hz := h.below hb
  obtain ⟨h1, h2, h3, h4, h5, h6⟩ := hz
  have hge := hi.ge
  have hw := h.2.1.size
  have hg := h.2.2.2.2.2
  exact ⟨⟨h1.alloc _, below_alloc h2 _, blk_alloc h3 _, blk_alloc h4 _, h5, by simp; omega⟩, Q.IsS141.alloc ⟨hi.1, Nat.le_trans hw hge⟩ _, blk_new _ _, by omega, hi.lt⟩
def LRel (m : Nat) (kd n0 : Int) (f : Bs → Rd) (q0 j : Nat) (w wr : World) (g g1 gb : Nat) (s : ByteArray) (p : Nat) (bd : ByteArray) (q : Nat) (xs : List Vl) (A : Option Addr) (c : Nat) (cs3 : Array Value) : Prop :=
  q0 + q ≤ bd.size ∧ seqE (badly f) j (bd.data.toList.drop q0) = .ok (xs, q) ∧ YS m w wr g g1 gb s p bd ((q0 + q : Nat) : Int) 0 cs3 #[.int .i64 kd, .int .u64 n0, .string ⟨#[]⟩, .slice A xs.length c] ∧
  Kd.R kV 25 wr w.heap.size (fun k => k ≠ w.heap.size ∧ k ≠ w.heap.size + 1 ∧ k ≠ g ∧ k ≠ g1 ∧ k ≠ gb) (.slice A xs.length c) xs
theorem bodyE_err {f : Bs → Rd} {kind n : Int} {size count : Nat} {s : Bs} {x : Int} (h : seqE (badly f) count s = .error x) : bodyE f kind n size count s = .error x := by
  unfold bodyE
  rw [h]
theorem badly_err {f : Bs → Rd} {s : Bs} {e : Int} (h : f s = .error e) : badly f s = .error (shortE e) := by
  unfold badly
  rw [h]
theorem badly_ok {f : Bs → Rd} {s : Bs} {r : Vl × Nat} (h : f s = .ok r) : badly f s = .ok r := by
  unfold badly
  rw [h]
theorem keep4 {W : World} {q : Nat} {a0 a1 a2 a3 : Value} {ty : TypeId} (h4 : W.heap[q]? = some (.cells #[a0, a1, a2, a3] ty (0, 0))) (v0 v1 v2 v3 : Value) :
    ((((W.setCell ⟨q, 0, none⟩ v0).setCell ⟨q, 1, none⟩ v1).setCell ⟨q, 2, none⟩ v2).setCell ⟨q, 3, none⟩ v3).cell? ⟨q, 0, none⟩ = some v0 ∧ ((((W.setCell ⟨q, 0, none⟩ v0).setCell ⟨q, 1, none⟩ v1).setCell ⟨q, 2, none⟩ v2).setCell ⟨q, 3, none⟩ v3).cell? ⟨q, 1, none⟩ = some v1 ∧
    ((((W.setCell ⟨q, 0, none⟩ v0).setCell ⟨q, 1, none⟩ v1).setCell ⟨q, 2, none⟩ v2).setCell ⟨q, 3, none⟩ v3).cell? ⟨q, 2, none⟩ = some v2 ∧ ((((W.setCell ⟨q, 0, none⟩ v0).setCell ⟨q, 1, none⟩ v1).setCell ⟨q, 2, none⟩ v2).setCell ⟨q, 3, none⟩ v3).cell? ⟨q, 3, none⟩ = some v3 :=
  ⟨blk_cell (put4 h4 v0 v1 v2 v3) 0, blk_cell (put4 h4 v0 v1 v2 v3) 1, blk_cell (put4 h4 v0 v1 v2 v3) 2, blk_cell (put4 h4 v0 v1 v2 v3) 3⟩
theorem YS.below {m : Nat} {w wr wr2 : World} {g g1 gb : Nat} {s bd : ByteArray} {p q e : Int} {cs3 cs6 : Array Value} (h : YS m w wr g g1 gb s p bd q e cs3 cs6) (hb : Below wr.heap.size wr wr2) : YS m w wr2 g g1 gb s p bd q e cs3 cs6 :=
  ⟨h.1.below hb, h.2.1.below hb, blk_below h.2.2.1 hb, h.2.2.2⟩
theorem YS.set6 {m : Nat} {w wr : World} {g g1 gb : Nat} {s bd : ByteArray} {p q e : Int} {cs3 cs6 cs6' : Array Value} (h : YS m w wr g g1 gb s p bd q e cs3 cs6) {i : Nat} (_ : i < 4) (u : Value) (hp : (wr.setCell ⟨w.heap.size + 1, i, none⟩ u).heap[w.heap.size + 1]? = some (Obj.cells cs6' 25 (0, 0))) : YS m w (wr.setCell ⟨w.heap.size + 1, i, none⟩ u) g g1 gb s p bd q e cs3 cs6' := by
  obtain ⟨⟨h1, h2, h3, h4, h5, h6⟩, h7, h8, h9, h10⟩ := h
  have n1 : g ≠ w.heap.size + 1 := by omega
  have n2 : g1 ≠ w.heap.size + 1 := by omega
  have n3 : gb ≠ w.heap.size + 1 := by omega
  have n4 : w.heap.size ≠ w.heap.size + 1 := by omega
  exact ⟨⟨h1.far n1 _, h2.setCell (Nat.le_succ _) _, blk_far h3 n4 _, hp, h5, by rw [World.size_setCell]; exact h6⟩, h7.far n2 _, blk_far h8 n3 _, h9, h10⟩
theorem YS.grow {m : Nat} {w wr w4 : World} {g g1 gb : Nat} {s bd : ByteArray} {p q e : Int} {cs3 : Array Value} {a0 a1 a2 a3 : Value} {o : Obj} {row : Option Nat} (h : YS m w wr g g1 gb s p bd q e cs3 #[a0, a1, a2, a3]) (hb : Below w.heap.size w w4) (hg : (wr.alloc o).grownBy w4 row)
    (hn : some w.heap.size ≠ row ∧ some (w.heap.size + 1) ≠ row ∧ some g ≠ row ∧ some g1 ≠ row ∧ some gb ≠ row) (u : Value) : YS m w (w4.setCell ⟨w.heap.size + 1, 3, none⟩ u) g g1 gb s p bd q e cs3 #[a0, a1, a2, u] := by
  obtain ⟨⟨h1, h2, h3, h4, h5, h6⟩, h7, h8, h9, h10⟩ := h
  obtain ⟨k1, k2, k3, k4, k5⟩ := hn
  have hy : YS m w w4 g g1 gb s p bd q e cs3 #[a0, a1, a2, a3] := ⟨⟨(h1.alloc _).grown hg k3, hb, blk_grown (blk_alloc h3 _) hg k1, blk_grown (blk_alloc h4 _) hg k2, h5, by have := hg.size; simp at this; omega⟩, (h7.alloc _).grown hg k4, blk_grown (blk_alloc h8 _) hg k5, h9, h10⟩
  exact YS.set6 hy (by omega) u (blk_put (cs := #[a0, a1, a2, a3]) hy.1.2.2.2.1 3 _ rfl)
theorem sized_bad {m : Nat} {c : Ct} {l : Bs} (h : ¬ l.length < c.width.toNat) (h2 : ¬ l.length - c.width.toNat < numL (l.take c.width.toNat)) (h3 : numL (l.take c.width.toNat) < c.width.toNat) : sizedE (dataE m) c l = .error 5 := by
  unfold sizedE
  dsimp only
  rw [if_neg h, if_neg h2, if_pos h3]
theorem sized_rest {m : Nat} {c : Ct} {l : Bs} (h : ¬ l.length < c.width.toNat) (h2 : ¬ l.length - c.width.toNat < numL (l.take c.width.toNat)) (h3 : ¬ numL (l.take c.width.toNat) < c.width.toNat) (body : Bs) (hb : body = (l.drop c.width.toNat).take (numL (l.take c.width.toNat))) :
    sizedE (dataE m) c l = if 1000 < numL (body.take c.width.toNat) then .error 4
      else if c.kind = 23 ∧ numL (body.take c.width.toNat) % 2 ≠ 0 then .error 5
      else if c.kind = 24 then
        match body.drop c.width.toNat with
        | [] => .error 5
        | b :: more =>
          match ofO b.toNat with
          | none => .error 8
          | some x => if b.toNat = 0 then .error 8 else bodyE (dataE m b.toNat) c.kind x.kind (c.width.toNat + numL (l.take c.width.toNat)) (numL (body.take c.width.toNat)) more
      else bodyE (readE (dataE m)) c.kind 0 (c.width.toNat + numL (l.take c.width.toNat)) (numL (body.take c.width.toNat)) (body.drop c.width.toNat) := by
  subst hb
  unfold sizedE
  dsimp only
  rw [if_neg h, if_neg h2, if_neg h3]
  rfl
theorem sized_short {m : Nat} {c : Ct} {l : Bs} (h : l.length < c.width.toNat) : sizedE (dataE m) c l = .error 3 := by
  unfold sizedE
  dsimp only
  rw [if_pos h]
theorem sized_little {m : Nat} {c : Ct} {l : Bs} (h : ¬ l.length < c.width.toNat) (h2 : l.length - c.width.toNat < numL (l.take c.width.toNat)) : sizedE (dataE m) c l = .error 3 := by
  unfold sizedE
  dsimp only
  rw [if_neg h, if_pos h2]
set_option maxRecDepth 100000 in
set_option maxHeartbeats 4000000 in
theorem vsized_calls (m : Nat) (hm : m + 1 ≤ 32)
    (HV : ∀ (code : Int) (t : ByteArray) (p g : Nat), p ≤ t.size → t.size ≤ 140737488351232 → ∀ w0 w, Tb w0 → Q.IsS141 w0 w g t p 0 → Below w0.heap.size w0 w → Calls Tryd.prog 145 #[.agg #[.pointer (some ⟨g, 0, none⟩), .int .i64 m], .int .i64 code] w fun e w' => VlPost w0 w g t p (valE m code (t.data.toList.drop p)) e w')
    (cd kd : Int) (W : Nat) (sz it : Bool) (hW : W = 1 ∨ W = 4) (hkd : kd = 22 ∨ kd = 23 ∨ kd = 24)
    (s : ByteArray) (hs : s.size ≤ 140737488351232) (w : World) (hT : Tb w) :
    Calls Tryd.prog 113 #[.agg #[.int .i64 cd, .int .i64 kd, .int .i64 W, .bool sz, .bool it], .string s, .int .i64 (m + 1 : Nat)] w fun e w' => RdPost w (sizedE (dataE m) ⟨cd, kd, W, sz, it⟩ s.data.toList) e w' := by
  have HT := Lib.hid hT
  have HHV := Lib.hid HV
  clear hT HV
  have hsub2 : IntKind.i64.wrap (((m + 1 : Nat) : Int) - 1) = (m : Int) := by simp [IntKind.wrap, IntKind.bits, IntKind.signed]; omega
  have hWn : ((W : Int)).toNat = W := by omega
  go_enter Tryd.func113, Tryd.ntmps113
  go_wp2_with fail
  refine (Q.octet_New.calls s s 0 0 ((w.alloc _).alloc _) ((w.alloc _).alloc _) (Below.refl _ _) rfl).mono ?_
  rintro e w1 ⟨g, rfl, hi, hx, hb⟩
  have H1 := Lib.hid (new2 hi hb rfl rfl)
  clear hi hx hb
  have q1 := blk_cell H1.out.2.2.1 1
  have q2 := blk_cell H1.out.2.2.1 2
  go_wp2_with fail
  by_cases hA : s.size < W
  · obtain ⟨k, hk⟩ := (P.number_short s 0 W (by omega) (by omega) hs (by omega)).get
    have hr : sizedE (dataE m) ⟨cd, kd, W, sz, it⟩ s.data.toList = .error 3 := sized_short (by rw [P.len_list]; show s.size < (W : Int).toNat; omega)
    have HR := Lib.hid hr
    clear hr
    refine (Q.octet_Cursor_Number.calls k g s 0 0 W _ _ _ _ w _ H1.out.1 H1.out.2.1 hk).mono ?_
    rintro e w2 ⟨rfl, hi2, hb2, hk2⟩
    have H2 := Lib.hid (H1.out.turn hi2 hb2 hk2)
    clear hi2 hb2 hk2 hk
    go_wp2_with fail
    refine (Q.octet_Cursor_Err.calls g s _ 3 _ _ _ _ w _ H2.out.1 H2.out.2.1 rfl).mono ?_
    rintro e w3 ⟨rfl, hi3, hb3, hk3⟩
    have H3 := Lib.hid (H2.out.turn hi3 hb3 hk3)
    obtain ⟨a0, a1, a2, a3, b0, b1, b2, b3⟩ := cells4 H3.out.2.2.2.1
    clear hi3 hb3 hk3
    go_wp2_with fail
    refine bodyPost_ret (results_ctt rfl _ _ (w.heap.size + 1) 25 _ (0, 0) _ rfl (put4 H3.out.2.2.2.1 _ _ _ _) Tryd.underlying25 rfl (by kernel_rfl)) rfl ?_
    exact rdPost_fail HR.out (below_put4 H3.out.2.1 (by omega) _ _ _ _)
  · obtain ⟨k, hk⟩ := (P.number_ok s 0 W (by omega) (by omega) hs).get
    rw [List.drop_zero] at hk
    obtain ⟨n, hn⟩ : ∃ n, n = numL (s.data.toList.take W) := ⟨_, rfl⟩
    rw [← hn] at hk
    have hn64 : n < 4294967296 := by
      have := P.numL_lt (s.data.toList.take W)
      rw [List.length_take, P.len_list] at this
      rw [hn]
      rcases hW with e | e <;> subst e <;> rw [Nat.min_eq_left (by omega)] at this <;> omega
    have HN := Lib.hid hn
    clear hn
    refine (Q.octet_Cursor_Number.calls k g s 0 0 W _ _ _ _ w _ H1.out.1 H1.out.2.1 hk).mono ?_
    rintro e w2 ⟨rfl, hi2, hb2, hk2⟩
    have H2 := Lib.hid (H1.out.turn hi2 hb2 hk2)
    clear hi2 hb2 hk2 hk
    go_wp2_with fail
    refine (Q.octet_Cursor_Err.calls g s _ 0 _ _ _ _ w _ H2.out.1 H2.out.2.1 rfl).mono ?_
    rintro e w3 ⟨rfl, hi3, hb3, hk3⟩
    have H3 := Lib.hid (H2.out.turn hi3 hb3 hk3)
    clear hi3 hb3 hk3
    go_wp2_with fail
    refine (Q.octet_Cursor_Left.calls g s _ 0 _ _ _ _ w _ H3.out.1 H3.out.2.1 (P.left_ok s (0 + W) 0 (by omega))).mono ?_
    rintro e w4 ⟨rfl, hi4, hb4, hk4⟩
    have H4 := Lib.hid (H3.out.turn hi4 hb4 hk4)
    clear hi4 hb4 hk4
    have hu : IntKind.u64.wrap ((s.size - (0 + W) : Nat) : Int) = ((s.size - (0 + W) : Nat) : Int) := by simp [IntKind.wrap, IntKind.bits, IntKind.signed]; omega
    obtain ⟨a0, a1, a2, a3, b0, b1, b2, b3⟩ := cells4 H4.out.2.2.2.1
    by_cases hB : s.size - W < n
    · have hr : sizedE (dataE m) ⟨cd, kd, W, sz, it⟩ s.data.toList = .error 3 := sized_little (by rw [P.len_list]; show ¬ s.size < (W : Int).toNat; omega) (by rw [P.len_list]; show s.size - (W : Int).toNat < numL (s.data.toList.take (W : Int).toNat); rw [hWn, ← HN.out]; exact hB)
      have HR := Lib.hid hr
      clear hr
      have hlt : ((s.size - (0 + W) : Nat) : Int) < (n : Int) := by omega
      go_wp2_with fail
      refine bodyPost_ret (results_ctt rfl _ _ (w.heap.size + 1) 25 _ (0, 0) _ rfl (put4 H4.out.2.2.2.1 _ _ _ _) Tryd.underlying25 rfl (by kernel_rfl)) rfl ?_
      exact rdPost_fail HR.out (below_put4 H4.out.2.1 (by omega) _ _ _ _)
    · have hle : ¬ ((s.size - (0 + W) : Nat) : Int) < (n : Int) := by omega
      go_wp2_with fail
      have hl1 : ¬ s.data.toList.length < (W : Int).toNat := by rw [P.len_list]; omega
      have hl2 : ¬ s.data.toList.length - (W : Int).toNat < numL (s.data.toList.take (W : Int).toNat) := by rw [P.len_list, hWn, ← HN.out]; omega
      refine (Q.octet_Cursor_Take.calls g s ((0 + W : Nat) : Int) 0 n _ _ _ _ w _ H4.out.1 H4.out.2.1 (P.take_ok s (0 + W) n (by omega) hs)).mono ?_
      rintro e w5 ⟨rfl, hi5, hb5, hk5⟩
      have H5 := Lib.hid (H4.out.turn hi5 hb5 hk5)
      obtain ⟨bd, hbd⟩ : ∃ x, x = s.extract (0 + W) (0 + W + n) := ⟨_, rfl⟩
      rw [← hbd]
      have hbs : bd.size = n := by rw [hbd, P.ext_size' _ _ _ (by omega)]; omega
      have hbl : bd.data.toList = (s.data.toList.drop W).take n := by rw [hbd, P.ext_list, List.drop_take, Nat.zero_add, Nat.add_sub_cancel_left]
      have HBL := Lib.hid hbl
      have HL := Lib.hid (And.intro hl1 hl2)
      clear hi5 hb5 hk5 hbd hbl a0 a1 a2 a3 b0 b1 b2 b3 hl1 hl2
      go_wp2_with fail
      refine (Q.octet_New.calls bd bd 0 0 w5 w5 (Below.refl _ _) rfl).mono ?_
      rintro e w6 ⟨g1, rfl, hi6, hx6, hb6⟩
      have Y6 := Lib.hid (YS.start (m := m) H5.out hi6 hb6)
      obtain ⟨gb, hgb⟩ : ∃ x, x = w6.heap.size := ⟨_, rfl⟩
      have q3 := blk_cell (blk_below H5.out.2.2.1 hb6) 2
      have hz6 : w.heap.size < w6.heap.size := blk_lt (blk_below H5.out.2.2.1 hb6)
      have hz6b : w.heap.size + 1 < w6.heap.size := blk_lt (blk_below H5.out.2.2.2.1 hb6)
      have hz6n : w.heap.size ≠ w6.heap.size := Nat.ne_of_lt hz6
      have hz6m : w.heap.size + 1 ≠ w6.heap.size := Nat.ne_of_lt hz6b
      clear hi6 hx6 hb6
      go_wp2_with fail
      by_cases hC : n < W
      · obtain ⟨k, hk⟩ := (P.number_short bd 0 W (by omega) (by omega) (by omega) (by omega)).get
        have hr : sizedE (dataE m) ⟨cd, kd, W, sz, it⟩ s.data.toList = .error 5 := sized_bad HL.out.1 HL.out.2 (by show numL (s.data.toList.take (W : Int).toNat) < (W : Int).toNat; rw [hWn, ← HN.out]; exact hC)
        have HR := Lib.hid hr
        clear hr
        refine (Q.octet_Cursor_Number.calls k g1 bd 0 0 W _ _ _ _ w _ Y6.out.2.1 Y6.out.1.2.1 hk).mono ?_
        rintro e w7 ⟨rfl, hi7, hb7, hk7⟩
        have Y7 := Lib.hid (Y6.out.turn hi7 hb7 hk7)
        have p3 := blk_cell Y7.out.2.2.1 0
        clear hi7 hb7 hk7 hk
        go_wp2_with fail
        refine (Q.octet_Cursor_Err.calls g1 bd _ 3 _ _ _ _ w _ Y7.out.2.1 Y7.out.1.2.1 rfl).mono ?_
        rintro e w8 ⟨rfl, hi8, hb8, hk8⟩
        have Y8 := Lib.hid (Y7.out.turn hi8 hb8 hk8)
        obtain ⟨a0, a1, a2, a3, b0, b1, b2, b3⟩ := cells4 Y8.out.1.2.2.2.1
        clear hi8 hb8 hk8
        go_wp2_with fail
        refine bodyPost_ret (results_ctt rfl _ _ (w.heap.size + 1) 25 _ (0, 0) _ rfl (put4 Y8.out.1.2.2.2.1 _ _ _ _) Tryd.underlying25 rfl (by kernel_rfl)) rfl ?_
        exact rdPost_fail HR.out (below_put4 Y8.out.1.2.1 (by omega) _ _ _ _)
      · obtain ⟨k, hk⟩ := (P.number_ok bd 0 W (by omega) (by omega) (by omega)).get
        rw [List.drop_zero] at hk
        obtain ⟨ct, hct⟩ : ∃ n, n = numL (bd.data.toList.take W) := ⟨_, rfl⟩
        rw [← hct] at hk
        have hr := sized_rest (m := m) (c := ⟨cd, kd, W, sz, it⟩) HL.out.1 HL.out.2 (by show ¬ numL (s.data.toList.take (W : Int).toNat) < (W : Int).toNat; rw [hWn, ← HN.out]; exact hC) bd.data.toList (by show _ = (s.data.toList.drop (W : Int).toNat).take (numL (s.data.toList.take (W : Int).toNat)); rw [hWn, ← HN.out]; exact HBL.out)
        dsimp only at hr
        rw [hWn, ← hct, ← HN.out] at hr
        have hct64 : ct < 4294967296 := by
          have := P.numL_lt (bd.data.toList.take W)
          rw [List.length_take, P.len_list] at this
          rw [hct]
          rcases hW with e | e <;> subst e <;> rw [Nat.min_eq_left (by omega)] at this <;> omega
        have HR := Lib.hid hr
        have HCT := Lib.hid hct
        clear hr hct
        refine (Q.octet_Cursor_Number.calls k g1 bd 0 0 W _ _ _ _ w _ Y6.out.2.1 Y6.out.1.2.1 hk).mono ?_
        rintro e w7 ⟨rfl, hi7, hb7, hk7⟩
        have Y7 := Lib.hid (Y6.out.turn hi7 hb7 hk7)
        have p3 := blk_cell Y7.out.2.2.1 0
        clear hi7 hb7 hk7 hk
        go_wp2_with fail
        refine (Q.octet_Cursor_Err.calls g1 bd _ 0 _ _ _ _ w _ Y7.out.2.1 Y7.out.1.2.1 rfl).mono ?_
        rintro e w8 ⟨rfl, hi8, hb8, hk8⟩
        have Y8 := Lib.hid (Y7.out.turn hi8 hb8 hk8)
        obtain ⟨a0, a1, a2, a3, b0, b1, b2, b3⟩ := cells4 Y8.out.1.2.2.2.1
        have p1 := blk_cell Y8.out.1.2.2.1 1
        clear hi8 hb8 hk8
        by_cases hD : 1000 < ct
        · have hr : sizedE (dataE m) ⟨cd, kd, W, sz, it⟩ s.data.toList = .error 4 := by rw [HR.out, if_pos hD]
          have HR2 := Lib.hid hr
          have hD2 : (1000 : Int) < (ct : Int) := by omega
          clear hr
          go_wp2_with fail
          refine bodyPost_ret (results_ctt rfl _ _ (w.heap.size + 1) 25 _ (0, 0) _ rfl (put4 Y8.out.1.2.2.2.1 _ _ _ _) Tryd.underlying25 rfl (by kernel_rfl)) rfl ?_
          exact rdPost_fail HR2.out (below_put4 Y8.out.1.2.1 (by omega) _ _ _ _)
        · have hr := HR.out
          rw [if_neg hD] at hr
          have hD2 : ¬ (1000 : Int) < (ct : Int) := by omega
          by_cases hE : kd = 23 ∧ ct % 2 ≠ 0
          · rw [if_pos hE] at hr
            have HR2 := Lib.hid hr
            obtain ⟨hE1, hE2⟩ := hE
            subst hE1
            have hE3 : (ct : Int).tmod 2 = 1 := by
              have e1 : (ct : Int).tmod 2 = ((ct % 2 : Nat) : Int) := rfl
              rw [e1]
              omega
            clear hr
            go_wp2_with fail
            refine bodyPost_ret (results_ctt rfl _ _ (w.heap.size + 1) 25 _ (0, 0) _ rfl (put4 Y8.out.1.2.2.2.1 _ _ _ _) Tryd.underlying25 rfl (by kernel_rfl)) rfl ?_
            exact rdPost_fail HR2.out (below_put4 Y8.out.1.2.1 (by omega) _ _ _ _)
          · rw [if_neg hE] at hr
            have HR2 := Lib.hid hr
            clear hr
            have hb0 : (kd = 23 ∧ (ct : Int).tmod 2 = 0) ∨ kd = 22 ∨ kd = 24 := by
              have e1 : (ct : Int).tmod 2 = ((ct % 2 : Nat) : Int) := rfl
              rw [e1]
              rcases hkd with h | h | h
              · exact .inr (.inl h)
              · exact .inl ⟨h, by have : ¬ (ct % 2 ≠ 0) := fun h2 => hE ⟨h, h2⟩; omega⟩
              · exact .inr (.inr h)
            rcases hb0 with ⟨rfl, ht⟩ | rfl | rfl
            · rw [if_neg (by decide)] at HR2
              have HBE := HR2
              go_wp2_with fail
              go_loopw [98] (fun iv wr => ∃ (j : Nat) (xs : List Vl) (q : Nat) (A : Option Addr) (c : Nat), iv = .int .u64 j ∧ j ≤ ct ∧ Hid (LRel m 23 0 (readE (dataE m)) W j w wr g g1 w6.heap.size s (0 + W + n : Nat) bd q xs A c #[.int .i64 cd, .int .i64 23, .int .i64 W, .bool sz, .bool it])) (fun iv _ => ct - (intOf iv).toNat)
              case atStart =>
                refine ⟨0, [], 0, none, 0, rfl, by omega, Lib.hid ⟨by omega, rfl, ?_, Kd.R_nil _ _ _ _ _⟩⟩
                rw [show ((W + 0 : Nat) : Int) = ((0 + W : Nat) : Int) by omega]
                exact YS.set6 Y8.out (by omega) (.int .i64 23) (blk_put (cs := #[Value.int IntKind.i64 0, Value.int IntKind.u64 0, Value.string ⟨#[]⟩, Value.slice none 0 0]) Y8.out.1.2.2.2.1 0 (.int .i64 23) rfl)
              case round =>
                obtain ⟨j, xs, q, A, c, rfl, hj, HR3⟩ := hrel
                have k0 := blk_cell HR3.out.2.2.1.2.2.1 0
                have k1 := blk_cell HR3.out.2.2.1.2.2.1 1
                by_cases hj2 : j < ct
                · have hv : valE m (-1) (bd.data.toList.drop (W + q)) = (readE (dataE m)) (bd.data.toList.drop (W + q)) := if_pos (by decide)
                  have hcall := HHV.out (-1) bd (W + q) g1 HR3.out.1 (by omega) w wr HT.out HR3.out.2.2.1.2.1 HR3.out.2.2.1.1.2.1
                  rw [hv] at hcall
                  have hgood := valE_good m (-1) (bd.data.toList.drop (W + q))
                  rw [hv, List.length_drop, P.len_list] at hgood
                  obtain ⟨rr, hrr0⟩ : ∃ x, x = (readE (dataE m)) (bd.data.toList.drop (W + q)) := ⟨_, rfl⟩
                  rw [← hrr0] at hcall hgood
                  have HC := Lib.hid hcall
                  have HGO := Lib.hid hgood
                  have HRR := Lib.hid hrr0
                  have hwr : w6.heap.size < wr.heap.size := blk_lt HR3.out.2.2.1.2.2.1
                  clear hv hcall hgood hrr0
                  go_wp2_with fail
                  refine HC.out.mono ?_
                  rintro e w2 ⟨r1, r2, r3, r4, r5, r6, A3, c3, hrr, rfl, ho2, hi2, hb2, hk2⟩
                  have Y2 := Lib.hid (HR3.out.2.2.1.turn hi2 hb2 hk2)
                  have HX := Lib.hid (And.intro ho2 hk2)
                  obtain ⟨a0, a1, a2, a3, b0, b1, b2, b3⟩ := cells4 Y2.out.1.2.2.2.1
                  have hz2 : w6.heap.size < w2.heap.size := blk_lt Y2.out.2.2.1
                  have hz3 : w.heap.size + 1 < w2.heap.size := by omega
                  have hz3n : w.heap.size + 1 ≠ w2.heap.size := by omega
                  clear ho2 hi2 hb2 hk2 HC k0 k1
                  cases rr with
                  | error e =>
                    have hne : e ≠ 0 := HGO.out
                    simp only [P.outR, Prod.mk.injEq] at hrr
                    obtain ⟨rfl, rfl, rfl, rfl, h5, rfl⟩ := hrr
                    have hr := bodyE_err (kind := 23) (n := 0) (size := W + n) (seqE_err j _ _ _ (shortE e) HR3.out.2.1 (badly_err (by rw [List.drop_drop]; exact HRR.out.symm)) ct hj2)
                    rw [← HBE.out] at hr
                    have HD := Lib.hid hr
                    clear hr h5
                    by_cases he3 : e = 3
                    · subst he3
                      go_wp2_with fail
                      refine bodyPost_ret (results_ctt rfl _ _ (w.heap.size + 1) 25 _ (0, 0) _ rfl (blk_alloc (put4 Y2.out.1.2.2.2.1 _ _ _ _) _) Tryd.underlying25 rfl (by kernel_rfl)) rfl ?_
                      exact (rdPost_fail (x := 5) HD.out (below_put4 Y2.out.1.2.1 (by omega) _ _ _ _)).alloc _
                    · have hse : shortE e = e := if_neg he3
                      rw [hse] at HD
                      go_wp2_with fail
                      refine bodyPost_ret (results_ctt rfl _ _ (w.heap.size + 1) 25 _ (0, 0) _ rfl (blk_alloc (put4 Y2.out.1.2.2.2.1 _ _ _ _) _) Tryd.underlying25 rfl (by kernel_rfl)) rfl ?_
                      exact (rdPost_fail HD.out (below_put4 Y2.out.1.2.1 (by omega) _ _ _ _)).alloc _
                  | ok vk =>
                    obtain ⟨v, k⟩ := vk
                    simp only [P.outR, Prod.mk.injEq] at hrr
                    obtain ⟨rfl, rfl, rfl, rfl, h5, rfl⟩ := hrr
                    obtain rfl : k = r5 := by omega
                    clear h5
                    have hkl : k ≤ bd.size - (W + q) := HGO.out
                    have hql : W + q ≤ bd.size := HR3.out.1
                    have hgg : w.heap.size + 2 ≤ g ∧ g < g1 ∧ g1 < w6.heap.size := ⟨Y2.out.1.2.2.2.2.1, Y2.out.2.2.2.1, Y2.out.2.2.2.2⟩
                    have h6 := HR3.out.2.2.2
                    have hxl : xs.length = j := by
                      have hq := seqE_good (badly_good (readE_good (dataE_good m))) j (bd.data.toList.drop W)
                      rw [HR3.out.2.1] at hq
                      exact hq.2
                    have hP : kV.R 25 w2 w.heap.size (fun k_ => (k_ ≠ w.heap.size ∧ k_ ≠ w.heap.size + 1 ∧ k_ ≠ g ∧ k_ ≠ g1 ∧ k_ ≠ w6.heap.size) ∧ some k_ ≠ (Value.slice A xs.length c).ownBlock) (.slice A3 v.items.length c3) v.items :=
                      Kd.R_lower (Kd.R_mono (Kd.R_bound (Kd.R_new' HX.out.1 (Kd.R_lt h6))) (fun k_ hk => ⟨by have := hk.2.1; omega, hk.1.2⟩)) (by omega)
                    have hO : kV.R 25 w2 w.heap.size (fun k_ => k_ ≠ w.heap.size ∧ k_ ≠ w.heap.size + 1 ∧ k_ ≠ g ∧ k_ ≠ g1 ∧ k_ ≠ w6.heap.size) (.slice A xs.length c) xs := Kd.R_keep h6 HX.out.2 (fun k_ hk => hk.2.2.2.1)
                    have HP := Lib.hid hP
                    have HO := Lib.hid hO
                    have HL3 := Lib.hid hxl
                    have HN3 := Lib.hid (And.intro (fun e => (h6.1 _ (Eq.symm e)).1 rfl : some w.heap.size ≠ (Value.slice A xs.length c).ownBlock) (And.intro (fun e => (h6.1 _ (Eq.symm e)).2.1 rfl : some (w.heap.size + 1) ≠ (Value.slice A xs.length c).ownBlock) (And.intro (fun e => (h6.1 _ (Eq.symm e)).2.2.1 rfl : some g ≠ (Value.slice A xs.length c).ownBlock) (And.intro (fun e => (h6.1 _ (Eq.symm e)).2.2.2.1 rfl : some g1 ≠ (Value.slice A xs.length c).ownBlock) (fun e => (h6.1 _ (Eq.symm e)).2.2.2.2 rfl : some w6.heap.size ≠ (Value.slice A xs.length c).ownBlock)))))
                    clear h6 hP hO hxl
                    go_wp2_with ((with_reducible refine gate_builtin (b := .append) (xs := #[.tmp 113, .tmp 115]) rfl ?_); at_builtin; refine Kd.R_append kV (w0 := w) w.heap.size rfl (.tmp 113) (.tmp 115) 23 25 (.agg #[(.int .i64 0), (.int .u64 0), (.string ⟨#[]⟩), (.slice none 0 0)]) 56 rfl Tryd.underlying23 infoV rfl (by decide) (by omega) (.slice A xs.length c) xs v [.int .i64 v.kind, .int .u64 v.n, .string v.text, .slice A3 v.items.length c3] (fun k_ => k_ ≠ w.heap.size ∧ k_ ≠ w.heap.size + 1 ∧ k_ ≠ g ∧ k_ ≠ g1 ∧ k_ ≠ w6.heap.size) (fun k_ => (k_ ≠ w.heap.size ∧ k_ ≠ w.heap.size + 1 ∧ k_ ≠ g ∧ k_ ≠ g1 ∧ k_ ≠ w6.heap.size) ∧ some k_ ≠ (Value.slice A xs.length c).ownBlock) rfl (slice_next w2 _) ?aP (fun _ hk => hk) ?aF ?aO ?aB ?aS ?aL ?_; (case aP => exact kV_mkM _ _ _ v (Kd.R_alloc HP.out _)); (case aF => (intro k_ hk; simp at hk; omega)); (case aO => exact Kd.R_alloc HO.out _); (case aB => exact below_alloc Y2.out.1.2.1 _); (case aS => exact below_size (below_alloc Y2.out.1.2.1 _)); (case aL => have := HL3.out; omega); intro v1 w4 ho hb4 hg4 hat; obtain ⟨A', c', rfl⟩ := Kd.R_slice ho; obtain ⟨y0, y1, y2, y3, z0, z1, z2, z3⟩ := cells4 (blk_grown (blk_alloc Y2.out.1.2.2.2.1 _) hg4 HN3.out.2.1); have HY := Lib.hid (And.intro ho (And.intro hb4 hg4)); clear ho hb4 hg4 hat)
                    have HN5 : Hid (LRel m 23 0 (readE (dataE m)) W (j + 1) w (w4.setCell ⟨w.heap.size + 1, 3, none⟩ (.slice A' (xs.length + 1) c')) g g1 w6.heap.size s (0 + W + n : Nat) bd (q + k) (xs ++ [v]) A' c' #[.int .i64 cd, .int .i64 23, .int .i64 W, .bool sz, .bool it]) := by
                      rw [show xs.length + 1 = (xs ++ [v]).length by simp]
                      obtain ⟨ho, hb4, hg4⟩ := HY.out
                      have Y3 := Y2.out
                      rw [show W + q + k = W + (q + k) by omega] at Y3
                      exact Lib.hid ⟨by omega, seqE_ok j _ _ _ _ _ HR3.out.2.1 (badly_ok (by rw [List.drop_drop]; exact HRR.out.symm)), YS.grow Y3 hb4 hg4 HN3.out _, Kd.R_far ho (fun k_ hk => hk.2.1) _⟩
                    have hctb : IntKind.u64.wrap ((j : Int) + 1) = ((j + 1 : Nat) : Int) := by simp [IntKind.wrap, IntKind.bits, IntKind.signed]; omega
                    refine ⟨⟨j + 1, xs ++ [v], q + k, A', c', by go_num, by omega, HN5⟩, by simp [intOf]; omega⟩
                · have hjc : j = ct := by omega
                  subst hjc
                  have hql : W + q ≤ bd.size := HR3.out.1
                  have hq0 : (bd.data.toList.drop W).length = bd.size - W := by rw [List.length_drop, P.len_list]
                  have hseq := HR3.out.2.1
                  obtain ⟨lf, hlf⟩ : ∃ x, x = bd.size - (W + q) := ⟨_, rfl⟩
                  have hleft := P.left_ok bd (W + q) 0 hql
                  rw [← hlf] at hleft
                  have HLF := Lib.hid hleft
                  have HSQ := Lib.hid hseq
                  clear hleft hseq
                  go_wp2_with fail
                  refine (Q.octet_Cursor_Left.calls g1 bd _ 0 _ _ _ _ w _ HR3.out.2.2.1.2.1 HR3.out.2.2.1.1.2.1 HLF.out).mono ?_
                  rintro e w2 ⟨rfl, hi2, hb2, hk2⟩
                  have Y2 := Lib.hid (HR3.out.2.2.1.turn hi2 hb2 hk2)
                  have R2 := Lib.hid (Kd.R_keep HR3.out.2.2.2 hk2 (fun k_ hk => hk.2.2.2.1))
                  obtain ⟨a0, a1, a2, a3, b0, b1, b2, b3⟩ := cells4 Y2.out.1.2.2.2.1
                  clear hi2 hb2 hk2 k0 k1
                  by_cases hq : lf = 0
                  · subst hq
                    have hqe : q = (bd.data.toList.drop W).length := by rw [hq0]; omega
                    have hbe : bodyE (readE (dataE m)) 23 0 (W + n) j (bd.data.toList.drop W) = if keysP 23 xs ≠ 0 then .error (keysP 23 xs) else .ok (⟨23, 0, ofBs [], xs⟩, W + n) := by
                      unfold bodyE
                      rw [HSQ.out]
                      dsimp only
                      rw [if_neg (fun h => h hqe)]
                    rw [← HBE.out] at hbe
                    have hok : P.Ok ⟨23, 0, ofBs [], xs⟩ := body_Ok (badly_okR (readE_okR (dataE_okR m))) ⟨by omega, by omega⟩ ⟨by omega, by omega⟩ (by have hq2 := seqE_good (badly_good (readE_good (dataE_good m))) j (bd.data.toList.drop W); rw [HSQ.out] at hq2; have := hq2.2; omega) (by rw [hq0]; omega) HSQ.out
                    obtain ⟨k, hk⟩ := (P.keys_fin _ hok).get
                    have HKF := Lib.hid hk
                    have HBB := Lib.hid hbe
                    clear hbe hok hk hqe hq0 hlf
                    go_wp2_with fail
                    refine (Q.amqvalue_keys.calls k 23 0 ⟨#[]⟩ A c xs _ _ (Kd.R_reads' R2.out).2.2 (Kd.R_reads' R2.out).2.1 HKF.out).mono ?_
                    rintro e w3 ⟨rfl, hb3⟩
                    have Y3 := Lib.hid (Y2.out.below hb3)
                    have R3 := Lib.hid (Kd.R_below R2.out hb3)
                    clear a0 a1 a2 a3 b0 b1 b2 b3 hb3
                    obtain ⟨a0, a1, a2, a3, b0, b1, b2, b3⟩ := cells4 Y3.out.1.2.2.2.1
                    have HB2 := HBB.out
                    by_cases hkz : keysP 23 xs = 0
                    · rw [if_neg (fun h => h hkz)] at HB2
                      have HD := Lib.hid HB2
                      dsimp only
                      rw [hkz]
                      clear HB2 hkz
                      go_wp2_with fail
                      go_region_held3 (fun w' => w'.cell? ⟨w.heap.size + 1, 0, none⟩ = some (.int .i64 23) ∧ w'.cell? ⟨w.heap.size + 1, 1, none⟩ = some (.int .u64 0) ∧ w'.cell? ⟨w.heap.size + 1, 2, none⟩ = some (.string ⟨#[]⟩) ∧ w'.cell? ⟨w.heap.size + 1, 3, none⟩ = some (.slice A xs.length c)) (first | (with_reducible exact HJ.out _ _ _ _) | go_keep) ((go_at_call 100; refine (Q.octet_Cursor_At.calls g s ((0 + W + n : Nat) : Int) 0 ((0 + W + n : Nat) : Int) s ((0 + W + n : Nat) : Int) 0 w _ ?hI ?hB rfl).mono ?_; (case hI => exact Y3.out.1.1.drew); (case hB => exact below_drew Y3.out.1.2.1); (rintro e w5 ⟨rfl, hi5, hb5, hk5⟩); have D6 := Lib.hid (hk5.blk (blk_drew Y3.out.1.2.2.2.1) (by have := Y3.out.1.2.2.2.2.1; omega) (by simp)); obtain ⟨y0, y1, y2, y3, z0, z1, z2, z3⟩ := cells4 D6.out; have HJ := Lib.hid (keep4 D6.out); have HX5 := Lib.hid (And.intro hi5 (And.intro hb5 hk5)); clear hi5 hb5 hk5))
                      all_goals
                        go_wp2_with fail
                        refine bodyPost_ret (results_ctt rfl _ _ (w.heap.size + 1) 25 _ (0, 0) _ rfl (put4 D6.out _ _ _ _) Tryd.underlying25 rfl (by kernel_rfl)) rfl ?_
                        refine ⟨23, 0, ⟨#[]⟩, xs, ((0 + W + n : Nat) : Int), 0, by rw [HD.out, Nat.zero_add]; rfl, A, c, by first | rfl | simp, ?_, below_put4 HX5.out.2.1 (by omega) _ _ _ _⟩
                        exact Kd.R_mono (Kd.R_far (p := ⟨w.heap.size + 1, 3, none⟩) (Kd.R_far (p := ⟨w.heap.size + 1, 2, none⟩) (Kd.R_far (p := ⟨w.heap.size + 1, 1, none⟩) (Kd.R_far (p := ⟨w.heap.size + 1, 0, none⟩) (Kd.R_keep (Kd.R_drew R3.out) HX5.out.2.2 (fun _ hk => hk.2.2.1)) (fun _ hk => hk.2.1) _) (fun _ hk => hk.2.1) _) (fun _ hk => hk.2.1) _) (fun _ hk => hk.2.1) _) (fun _ _ => trivial)
                    · rw [if_pos hkz] at HB2
                      have HD := Lib.hid HB2
                      clear HB2
                      dsimp only
                      generalize keysP 23 xs = ky at *
                      go_wp2_with fail
                      refine bodyPost_ret (results_ctt rfl _ _ (w.heap.size + 1) 25 _ (0, 0) _ rfl (put4 Y3.out.1.2.2.2.1 _ _ _ _) Tryd.underlying25 rfl (by kernel_rfl)) rfl ?_
                      exact rdPost_fail HD.out (below_put4 Y3.out.1.2.1 (by omega) _ _ _ _)
                  · have hbe := HBE.out
                    have HD : Hid (sizedE (dataE m) ⟨cd, 23, W, sz, it⟩ s.data.toList = .error 5) := by
                      refine Lib.hid ?_
                      rw [hbe]
                      unfold bodyE
                      rw [HSQ.out]
                      dsimp only
                      rw [if_pos (fun h => hq (by rw [hq0] at h; omega))]
                    have hlz : ¬ (lf : Int) = 0 := by omega
                    clear hbe
                    go_wp2_with fail
                    refine bodyPost_ret (results_ctt rfl _ _ (w.heap.size + 1) 25 _ (0, 0) _ rfl (put4 Y2.out.1.2.2.2.1 _ _ _ _) Tryd.underlying25 rfl (by kernel_rfl)) rfl ?_
                    exact rdPost_fail HD.out (below_put4 Y2.out.1.2.1 (by omega) _ _ _ _)
            · rw [if_neg (by decide)] at HR2
              have HBE := HR2
              go_wp2_with fail
              go_loopw [98] (fun iv wr => ∃ (j : Nat) (xs : List Vl) (q : Nat) (A : Option Addr) (c : Nat), iv = .int .u64 j ∧ j ≤ ct ∧ Hid (LRel m 22 0 (readE (dataE m)) W j w wr g g1 w6.heap.size s (0 + W + n : Nat) bd q xs A c #[.int .i64 cd, .int .i64 22, .int .i64 W, .bool sz, .bool it])) (fun iv _ => ct - (intOf iv).toNat)
              case atStart =>
                refine ⟨0, [], 0, none, 0, rfl, by omega, Lib.hid ⟨by omega, rfl, ?_, Kd.R_nil _ _ _ _ _⟩⟩
                rw [show ((W + 0 : Nat) : Int) = ((0 + W : Nat) : Int) by omega]
                exact YS.set6 Y8.out (by omega) (.int .i64 22) (blk_put (cs := #[Value.int IntKind.i64 0, Value.int IntKind.u64 0, Value.string ⟨#[]⟩, Value.slice none 0 0]) Y8.out.1.2.2.2.1 0 (.int .i64 22) rfl)
              case round =>
                obtain ⟨j, xs, q, A, c, rfl, hj, HR3⟩ := hrel
                have k0 := blk_cell HR3.out.2.2.1.2.2.1 0
                have k1 := blk_cell HR3.out.2.2.1.2.2.1 1
                by_cases hj2 : j < ct
                · have hv : valE m (-1) (bd.data.toList.drop (W + q)) = (readE (dataE m)) (bd.data.toList.drop (W + q)) := if_pos (by decide)
                  have hcall := HHV.out (-1) bd (W + q) g1 HR3.out.1 (by omega) w wr HT.out HR3.out.2.2.1.2.1 HR3.out.2.2.1.1.2.1
                  rw [hv] at hcall
                  have hgood := valE_good m (-1) (bd.data.toList.drop (W + q))
                  rw [hv, List.length_drop, P.len_list] at hgood
                  obtain ⟨rr, hrr0⟩ : ∃ x, x = (readE (dataE m)) (bd.data.toList.drop (W + q)) := ⟨_, rfl⟩
                  rw [← hrr0] at hcall hgood
                  have HC := Lib.hid hcall
                  have HGO := Lib.hid hgood
                  have HRR := Lib.hid hrr0
                  have hwr : w6.heap.size < wr.heap.size := blk_lt HR3.out.2.2.1.2.2.1
                  clear hv hcall hgood hrr0
                  go_wp2_with fail
                  refine HC.out.mono ?_
                  rintro e w2 ⟨r1, r2, r3, r4, r5, r6, A3, c3, hrr, rfl, ho2, hi2, hb2, hk2⟩
                  have Y2 := Lib.hid (HR3.out.2.2.1.turn hi2 hb2 hk2)
                  have HX := Lib.hid (And.intro ho2 hk2)
                  obtain ⟨a0, a1, a2, a3, b0, b1, b2, b3⟩ := cells4 Y2.out.1.2.2.2.1
                  have hz2 : w6.heap.size < w2.heap.size := blk_lt Y2.out.2.2.1
                  have hz3 : w.heap.size + 1 < w2.heap.size := by omega
                  have hz3n : w.heap.size + 1 ≠ w2.heap.size := by omega
                  clear ho2 hi2 hb2 hk2 HC k0 k1
                  cases rr with
                  | error e =>
                    have hne : e ≠ 0 := HGO.out
                    simp only [P.outR, Prod.mk.injEq] at hrr
                    obtain ⟨rfl, rfl, rfl, rfl, h5, rfl⟩ := hrr
                    have hr := bodyE_err (kind := 22) (n := 0) (size := W + n) (seqE_err j _ _ _ (shortE e) HR3.out.2.1 (badly_err (by rw [List.drop_drop]; exact HRR.out.symm)) ct hj2)
                    rw [← HBE.out] at hr
                    have HD := Lib.hid hr
                    clear hr h5
                    by_cases he3 : e = 3
                    · subst he3
                      go_wp2_with fail
                      refine bodyPost_ret (results_ctt rfl _ _ (w.heap.size + 1) 25 _ (0, 0) _ rfl (blk_alloc (put4 Y2.out.1.2.2.2.1 _ _ _ _) _) Tryd.underlying25 rfl (by kernel_rfl)) rfl ?_
                      exact (rdPost_fail (x := 5) HD.out (below_put4 Y2.out.1.2.1 (by omega) _ _ _ _)).alloc _
                    · have hse : shortE e = e := if_neg he3
                      rw [hse] at HD
                      go_wp2_with fail
                      refine bodyPost_ret (results_ctt rfl _ _ (w.heap.size + 1) 25 _ (0, 0) _ rfl (blk_alloc (put4 Y2.out.1.2.2.2.1 _ _ _ _) _) Tryd.underlying25 rfl (by kernel_rfl)) rfl ?_
                      exact (rdPost_fail HD.out (below_put4 Y2.out.1.2.1 (by omega) _ _ _ _)).alloc _
                  | ok vk =>
                    obtain ⟨v, k⟩ := vk
                    simp only [P.outR, Prod.mk.injEq] at hrr
                    obtain ⟨rfl, rfl, rfl, rfl, h5, rfl⟩ := hrr
                    obtain rfl : k = r5 := by omega
                    clear h5
                    have hkl : k ≤ bd.size - (W + q) := HGO.out
                    have hql : W + q ≤ bd.size := HR3.out.1
                    have hgg : w.heap.size + 2 ≤ g ∧ g < g1 ∧ g1 < w6.heap.size := ⟨Y2.out.1.2.2.2.2.1, Y2.out.2.2.2.1, Y2.out.2.2.2.2⟩
                    have h6 := HR3.out.2.2.2
                    have hxl : xs.length = j := by
                      have hq := seqE_good (badly_good (readE_good (dataE_good m))) j (bd.data.toList.drop W)
                      rw [HR3.out.2.1] at hq
                      exact hq.2
                    have hP : kV.R 25 w2 w.heap.size (fun k_ => (k_ ≠ w.heap.size ∧ k_ ≠ w.heap.size + 1 ∧ k_ ≠ g ∧ k_ ≠ g1 ∧ k_ ≠ w6.heap.size) ∧ some k_ ≠ (Value.slice A xs.length c).ownBlock) (.slice A3 v.items.length c3) v.items :=
                      Kd.R_lower (Kd.R_mono (Kd.R_bound (Kd.R_new' HX.out.1 (Kd.R_lt h6))) (fun k_ hk => ⟨by have := hk.2.1; omega, hk.1.2⟩)) (by omega)
                    have hO : kV.R 25 w2 w.heap.size (fun k_ => k_ ≠ w.heap.size ∧ k_ ≠ w.heap.size + 1 ∧ k_ ≠ g ∧ k_ ≠ g1 ∧ k_ ≠ w6.heap.size) (.slice A xs.length c) xs := Kd.R_keep h6 HX.out.2 (fun k_ hk => hk.2.2.2.1)
                    have HP := Lib.hid hP
                    have HO := Lib.hid hO
                    have HL3 := Lib.hid hxl
                    have HN3 := Lib.hid (And.intro (fun e => (h6.1 _ (Eq.symm e)).1 rfl : some w.heap.size ≠ (Value.slice A xs.length c).ownBlock) (And.intro (fun e => (h6.1 _ (Eq.symm e)).2.1 rfl : some (w.heap.size + 1) ≠ (Value.slice A xs.length c).ownBlock) (And.intro (fun e => (h6.1 _ (Eq.symm e)).2.2.1 rfl : some g ≠ (Value.slice A xs.length c).ownBlock) (And.intro (fun e => (h6.1 _ (Eq.symm e)).2.2.2.1 rfl : some g1 ≠ (Value.slice A xs.length c).ownBlock) (fun e => (h6.1 _ (Eq.symm e)).2.2.2.2 rfl : some w6.heap.size ≠ (Value.slice A xs.length c).ownBlock)))))
                    clear h6 hP hO hxl
                    go_wp2_with ((with_reducible refine gate_builtin (b := .append) (xs := #[.tmp 113, .tmp 115]) rfl ?_); at_builtin; refine Kd.R_append kV (w0 := w) w.heap.size rfl (.tmp 113) (.tmp 115) 23 25 (.agg #[(.int .i64 0), (.int .u64 0), (.string ⟨#[]⟩), (.slice none 0 0)]) 56 rfl Tryd.underlying23 infoV rfl (by decide) (by omega) (.slice A xs.length c) xs v [.int .i64 v.kind, .int .u64 v.n, .string v.text, .slice A3 v.items.length c3] (fun k_ => k_ ≠ w.heap.size ∧ k_ ≠ w.heap.size + 1 ∧ k_ ≠ g ∧ k_ ≠ g1 ∧ k_ ≠ w6.heap.size) (fun k_ => (k_ ≠ w.heap.size ∧ k_ ≠ w.heap.size + 1 ∧ k_ ≠ g ∧ k_ ≠ g1 ∧ k_ ≠ w6.heap.size) ∧ some k_ ≠ (Value.slice A xs.length c).ownBlock) rfl (slice_next w2 _) ?aP (fun _ hk => hk) ?aF ?aO ?aB ?aS ?aL ?_; (case aP => exact kV_mkM _ _ _ v (Kd.R_alloc HP.out _)); (case aF => (intro k_ hk; simp at hk; omega)); (case aO => exact Kd.R_alloc HO.out _); (case aB => exact below_alloc Y2.out.1.2.1 _); (case aS => exact below_size (below_alloc Y2.out.1.2.1 _)); (case aL => have := HL3.out; omega); intro v1 w4 ho hb4 hg4 hat; obtain ⟨A', c', rfl⟩ := Kd.R_slice ho; obtain ⟨y0, y1, y2, y3, z0, z1, z2, z3⟩ := cells4 (blk_grown (blk_alloc Y2.out.1.2.2.2.1 _) hg4 HN3.out.2.1); have HY := Lib.hid (And.intro ho (And.intro hb4 hg4)); clear ho hb4 hg4 hat)
                    have HN5 : Hid (LRel m 22 0 (readE (dataE m)) W (j + 1) w (w4.setCell ⟨w.heap.size + 1, 3, none⟩ (.slice A' (xs.length + 1) c')) g g1 w6.heap.size s (0 + W + n : Nat) bd (q + k) (xs ++ [v]) A' c' #[.int .i64 cd, .int .i64 22, .int .i64 W, .bool sz, .bool it]) := by
                      rw [show xs.length + 1 = (xs ++ [v]).length by simp]
                      obtain ⟨ho, hb4, hg4⟩ := HY.out
                      have Y3 := Y2.out
                      rw [show W + q + k = W + (q + k) by omega] at Y3
                      exact Lib.hid ⟨by omega, seqE_ok j _ _ _ _ _ HR3.out.2.1 (badly_ok (by rw [List.drop_drop]; exact HRR.out.symm)), YS.grow Y3 hb4 hg4 HN3.out _, Kd.R_far ho (fun k_ hk => hk.2.1) _⟩
                    have hctb : IntKind.u64.wrap ((j : Int) + 1) = ((j + 1 : Nat) : Int) := by simp [IntKind.wrap, IntKind.bits, IntKind.signed]; omega
                    refine ⟨⟨j + 1, xs ++ [v], q + k, A', c', by go_num, by omega, HN5⟩, by simp [intOf]; omega⟩
                · have hjc : j = ct := by omega
                  subst hjc
                  have hql : W + q ≤ bd.size := HR3.out.1
                  have hq0 : (bd.data.toList.drop W).length = bd.size - W := by rw [List.length_drop, P.len_list]
                  have hseq := HR3.out.2.1
                  obtain ⟨lf, hlf⟩ : ∃ x, x = bd.size - (W + q) := ⟨_, rfl⟩
                  have hleft := P.left_ok bd (W + q) 0 hql
                  rw [← hlf] at hleft
                  have HLF := Lib.hid hleft
                  have HSQ := Lib.hid hseq
                  clear hleft hseq
                  go_wp2_with fail
                  refine (Q.octet_Cursor_Left.calls g1 bd _ 0 _ _ _ _ w _ HR3.out.2.2.1.2.1 HR3.out.2.2.1.1.2.1 HLF.out).mono ?_
                  rintro e w2 ⟨rfl, hi2, hb2, hk2⟩
                  have Y2 := Lib.hid (HR3.out.2.2.1.turn hi2 hb2 hk2)
                  have R2 := Lib.hid (Kd.R_keep HR3.out.2.2.2 hk2 (fun k_ hk => hk.2.2.2.1))
                  obtain ⟨a0, a1, a2, a3, b0, b1, b2, b3⟩ := cells4 Y2.out.1.2.2.2.1
                  clear hi2 hb2 hk2 k0 k1
                  by_cases hq : lf = 0
                  · subst hq
                    have hqe : q = (bd.data.toList.drop W).length := by rw [hq0]; omega
                    have hbe : bodyE (readE (dataE m)) 22 0 (W + n) j (bd.data.toList.drop W) = if keysP 22 xs ≠ 0 then .error (keysP 22 xs) else .ok (⟨22, 0, ofBs [], xs⟩, W + n) := by
                      unfold bodyE
                      rw [HSQ.out]
                      dsimp only
                      rw [if_neg (fun h => h hqe)]
                    rw [← HBE.out] at hbe
                    have hok : P.Ok ⟨22, 0, ofBs [], xs⟩ := body_Ok (badly_okR (readE_okR (dataE_okR m))) ⟨by omega, by omega⟩ ⟨by omega, by omega⟩ (by have hq2 := seqE_good (badly_good (readE_good (dataE_good m))) j (bd.data.toList.drop W); rw [HSQ.out] at hq2; have := hq2.2; omega) (by rw [hq0]; omega) HSQ.out
                    obtain ⟨k, hk⟩ := (P.keys_fin _ hok).get
                    have HKF := Lib.hid hk
                    have HBB := Lib.hid hbe
                    clear hbe hok hk hqe hq0 hlf
                    go_wp2_with fail
                    refine (Q.amqvalue_keys.calls k 22 0 ⟨#[]⟩ A c xs _ _ (Kd.R_reads' R2.out).2.2 (Kd.R_reads' R2.out).2.1 HKF.out).mono ?_
                    rintro e w3 ⟨rfl, hb3⟩
                    have Y3 := Lib.hid (Y2.out.below hb3)
                    have R3 := Lib.hid (Kd.R_below R2.out hb3)
                    clear a0 a1 a2 a3 b0 b1 b2 b3 hb3
                    obtain ⟨a0, a1, a2, a3, b0, b1, b2, b3⟩ := cells4 Y3.out.1.2.2.2.1
                    have HB2 := HBB.out
                    by_cases hkz : keysP 22 xs = 0
                    · rw [if_neg (fun h => h hkz)] at HB2
                      have HD := Lib.hid HB2
                      dsimp only
                      rw [hkz]
                      clear HB2 hkz
                      go_wp2_with fail
                      go_region_held3 (fun w' => w'.cell? ⟨w.heap.size + 1, 0, none⟩ = some (.int .i64 22) ∧ w'.cell? ⟨w.heap.size + 1, 1, none⟩ = some (.int .u64 0) ∧ w'.cell? ⟨w.heap.size + 1, 2, none⟩ = some (.string ⟨#[]⟩) ∧ w'.cell? ⟨w.heap.size + 1, 3, none⟩ = some (.slice A xs.length c)) (first | (with_reducible exact HJ.out _ _ _ _) | go_keep) ((go_at_call 100; refine (Q.octet_Cursor_At.calls g s ((0 + W + n : Nat) : Int) 0 ((0 + W + n : Nat) : Int) s ((0 + W + n : Nat) : Int) 0 w _ ?hI ?hB rfl).mono ?_; (case hI => exact Y3.out.1.1.drew); (case hB => exact below_drew Y3.out.1.2.1); (rintro e w5 ⟨rfl, hi5, hb5, hk5⟩); have D6 := Lib.hid (hk5.blk (blk_drew Y3.out.1.2.2.2.1) (by have := Y3.out.1.2.2.2.2.1; omega) (by simp)); obtain ⟨y0, y1, y2, y3, z0, z1, z2, z3⟩ := cells4 D6.out; have HJ := Lib.hid (keep4 D6.out); have HX5 := Lib.hid (And.intro hi5 (And.intro hb5 hk5)); clear hi5 hb5 hk5))
                      all_goals
                        go_wp2_with fail
                        refine bodyPost_ret (results_ctt rfl _ _ (w.heap.size + 1) 25 _ (0, 0) _ rfl (put4 D6.out _ _ _ _) Tryd.underlying25 rfl (by kernel_rfl)) rfl ?_
                        refine ⟨22, 0, ⟨#[]⟩, xs, ((0 + W + n : Nat) : Int), 0, by rw [HD.out, Nat.zero_add]; rfl, A, c, by first | rfl | simp, ?_, below_put4 HX5.out.2.1 (by omega) _ _ _ _⟩
                        exact Kd.R_mono (Kd.R_far (p := ⟨w.heap.size + 1, 3, none⟩) (Kd.R_far (p := ⟨w.heap.size + 1, 2, none⟩) (Kd.R_far (p := ⟨w.heap.size + 1, 1, none⟩) (Kd.R_far (p := ⟨w.heap.size + 1, 0, none⟩) (Kd.R_keep (Kd.R_drew R3.out) HX5.out.2.2 (fun _ hk => hk.2.2.1)) (fun _ hk => hk.2.1) _) (fun _ hk => hk.2.1) _) (fun _ hk => hk.2.1) _) (fun _ hk => hk.2.1) _) (fun _ _ => trivial)
                    · rw [if_pos hkz] at HB2
                      have HD := Lib.hid HB2
                      clear HB2
                      dsimp only
                      generalize keysP 22 xs = ky at *
                      go_wp2_with fail
                      refine bodyPost_ret (results_ctt rfl _ _ (w.heap.size + 1) 25 _ (0, 0) _ rfl (put4 Y3.out.1.2.2.2.1 _ _ _ _) Tryd.underlying25 rfl (by kernel_rfl)) rfl ?_
                      exact rdPost_fail HD.out (below_put4 Y3.out.1.2.1 (by omega) _ _ _ _)
                  · have hbe := HBE.out
                    have HD : Hid (sizedE (dataE m) ⟨cd, 22, W, sz, it⟩ s.data.toList = .error 5) := by
                      refine Lib.hid ?_
                      rw [hbe]
                      unfold bodyE
                      rw [HSQ.out]
                      dsimp only
                      rw [if_pos (fun h => hq (by rw [hq0] at h; omega))]
                    have hlz : ¬ (lf : Int) = 0 := by omega
                    clear hbe
                    go_wp2_with fail
                    refine bodyPost_ret (results_ctt rfl _ _ (w.heap.size + 1) 25 _ (0, 0) _ rfl (put4 Y2.out.1.2.2.2.1 _ _ _ _) Tryd.underlying25 rfl (by kernel_rfl)) rfl ?_
                    exact rdPost_fail HD.out (below_put4 Y2.out.1.2.1 (by omega) _ _ _ _)
            · rw [if_pos rfl] at HR2
              have hleft0 := P.left_ok bd (0 + W) 0 (by omega)
              obtain ⟨lf0, hlf0⟩ : ∃ x, x = bd.size - (0 + W) := ⟨_, rfl⟩
              rw [← hlf0] at hleft0
              have HLF0 := Lib.hid hleft0
              have Y8s := Lib.hid (YS.set6 Y8.out (i := 0) (by omega) (.int .i64 24) (blk_put (cs := #[Value.int IntKind.i64 0, Value.int IntKind.u64 0, Value.string ⟨#[]⟩, Value.slice none 0 0]) Y8.out.1.2.2.2.1 0 (.int .i64 24) rfl))
              have r0 := blk_cell Y8.out.2.2.1 0
              clear hleft0
              go_wp2_with fail
              refine (Q.octet_Cursor_Left.calls g1 bd _ 0 _ _ _ _ w _ Y8s.out.2.1 Y8s.out.1.2.1 HLF0.out).mono ?_
              rintro e w9 ⟨rfl, hi9, hb9, hk9⟩
              have Y9 := Lib.hid (Y8s.out.turn hi9 hb9 hk9)
              clear a0 a1 a2 a3 b0 b1 b2 b3
              obtain ⟨a0, a1, a2, a3, b0, b1, b2, b3⟩ := cells4 Y9.out.1.2.2.2.1
              have r1 := blk_cell Y9.out.2.2.1 0
              clear hi9 hb9 hk9 r0
              by_cases hz0 : lf0 = 0
              · subst hz0
                have hdn : bd.data.toList.drop W = [] := List.drop_eq_nil_of_le (by rw [P.len_list]; omega)
                have hr := HR2.out
                rw [hdn] at hr
                have HD := Lib.hid hr
                clear hr hlf0 hdn
                go_wp2_with fail
                refine bodyPost_ret (results_ctt rfl _ _ (w.heap.size + 1) 25 _ (0, 0) _ rfl (put4 Y9.out.1.2.2.2.1 _ _ _ _) Tryd.underlying25 rfl (by kernel_rfl)) rfl ?_
                exact rdPost_fail HD.out (below_put4 Y9.out.1.2.1 (by omega) _ _ _ _)
              · have hlz : ¬ (lf0 : Int) = 0 := by omega
                have hlW : W < bd.data.toList.length := by rw [P.len_list]; omega
                have hdn := List.drop_eq_getElem_cons hlW
                obtain ⟨b, hb⟩ : ∃ b, b = bd.data.toList[W] := ⟨_, rfl⟩
                rw [← hb] at hdn
                obtain ⟨k, hk⟩ := (P.number_ok bd (0 + W) 1 (by omega) (by omega) (by omega)).get
                rw [Nat.zero_add, hdn, show (b :: List.drop (W + 1) bd.data.toList).take 1 = [b] from rfl, show numL [b] = b.toNat by simp [numL]] at hk
                have hr := HR2.out
                rw [hdn] at hr
                have HR4 := Lib.hid hr
                have HK := Lib.hid hk
                have hcv : IntKind.i64.wrap (b.toNat : Int) = (b.toNat : Int) := by have hb8 := b.toNat_lt; simp [IntKind.wrap, IntKind.bits, IntKind.signed]; omega
                have HOF := Lib.hid (fun W => Of_calls (b.toNat : Int) W)
                have HCV := Lib.hid hcv
                have HLF1 := Lib.hid hlf0
                have HBB0 := Lib.hid hb
                clear hr hk hb hdn hcv hlf0 hz0
                rw [Nat.zero_add] at Y9
                go_wp2_with fail
                refine (Q.octet_Cursor_Number.calls k g1 bd W 0 1 _ _ _ _ w _ Y9.out.2.1 Y9.out.1.2.1 HK.out).mono ?_
                rintro e w10 ⟨rfl, hi10, hb10, hk10⟩
                have Y10 := Lib.hid (Y9.out.turn hi10 hb10 hk10)
                clear hi10 hb10 hk10
                have hcv := HCV.out
                go_wp2_with fail
                refine (HOF.out _).mono ?_
                rintro e w11 ⟨rfl, hb11⟩
                have Y11 := Lib.hid (Y10.out.below hb11)
                clear a0 a1 a2 a3 b0 b1 b2 b3
                obtain ⟨a0, a1, a2, a3, b0, b1, b2, b3⟩ := cells4 Y11.out.1.2.2.2.1
                have hz11 : w.heap.size + 1 < w11.heap.size := blk_lt Y11.out.1.2.2.2.1
                have hz11n : w.heap.size + 1 ≠ w11.heap.size := by omega
                clear hb11
                have hlW2 : W + 1 ≤ bd.size := by rw [P.len_list] at hlW; omega
                cases ho : ofO (b.toNat : Int) with
                | none =>
                  have h2 : ofB (b.toNat : Int) = false := by unfold ofB; rw [ho]; rfl
                  rw [ho] at HR4
                  rw [h2]
                  go_wp2_with fail
                  refine bodyPost_ret (results_ctt rfl _ _ (w.heap.size + 1) 25 _ (0, 0) _ rfl (blk_alloc (put4 Y11.out.1.2.2.2.1 _ _ _ _) _) Tryd.underlying25 rfl (by kernel_rfl)) rfl ?_
                  exact (rdPost_fail HR4.out (below_put4 Y11.out.1.2.1 (by omega) _ _ _ _)).alloc _
                | some x =>
                  obtain ⟨h1, h2⟩ := ofC_some ho
                  have hxk := of_kind ho
                  obtain ⟨xc, xk, xw, xz, xi⟩ := x
                  rw [ho] at HR4
                  rw [h1, h2]
                  have HXK := Lib.hid hxk
                  by_cases hb0 : b.toNat = 0
                  · have hbz : (b.toNat : Int) = 0 := by omega
                    have HD : Hid (sizedE (dataE m) ⟨cd, 24, W, sz, it⟩ s.data.toList = .error 8) := Lib.hid (by rw [HR4.out]; exact if_pos hb0)
                    clear h1 h2 hxk
                    go_wp2_with fail
                    refine bodyPost_ret (results_ctt rfl _ _ (w.heap.size + 1) 25 _ (0, 0) _ rfl (blk_alloc (put4 Y11.out.1.2.2.2.1 _ _ _ _) _) Tryd.underlying25 rfl (by kernel_rfl)) rfl ?_
                    exact (rdPost_fail HD.out (below_put4 Y11.out.1.2.1 (by omega) _ _ _ _)).alloc _
                  · have hbz : ¬ (b.toNat : Int) = 0 := by omega
                    have hbq : ((b.toNat : Int) == 0) = false := beq_eq_false_iff_ne.2 hbz
                    have HBE : Hid (sizedE (dataE m) ⟨cd, 24, W, sz, it⟩ s.data.toList = bodyE (dataE m (b.toNat : Int)) 24 xk (W + n) ct (bd.data.toList.drop (W + 1))) := Lib.hid (by rw [HR4.out]; exact if_neg hb0)
                    have hkw : IntKind.u64.wrap xk = xk := by have h3 := HXK.out; have h4 : 0 ≤ xk := h3.1; have h5 : xk ≤ 25 := h3.2; simp [IntKind.wrap, IntKind.bits, IntKind.signed]; omega
                    clear h1 h2 hxk
                    go_wp2_with fail
                    go_loopw [98] (fun iv wr => ∃ (j : Nat) (xs : List Vl) (q : Nat) (A : Option Addr) (c : Nat), iv = .int .u64 j ∧ j ≤ ct ∧ Hid (LRel m 24 xk (dataE m (b.toNat : Int)) (W + 1) j w wr g g1 w6.heap.size s (0 + W + n : Nat) bd q xs A c #[.int .i64 cd, .int .i64 24, .int .i64 W, .bool sz, .bool it])) (fun iv _ => ct - (intOf iv).toNat)
                    case atStart =>
                      refine ⟨0, [], 0, none, 0, rfl, by omega, Lib.hid ⟨by omega, rfl, ?_, Kd.R_nil _ _ _ _ _⟩⟩
                      rw [show ((W + 1 + 0 : Nat) : Int) = ((W + 1 : Nat) : Int) by omega, show 0 + W + n = W + n by omega]
                      exact (YS.set6 Y11.out (i := 1) (by omega) (.int .u64 xk) (blk_put (cs := #[Value.int IntKind.i64 24, Value.int IntKind.u64 0, Value.string ⟨#[]⟩, Value.slice none 0 0]) Y11.out.1.2.2.2.1 1 (.int .u64 xk) rfl)).below (below_alloc (Below.refl _ _) _)
                    case round =>
                      obtain ⟨j, xs, q, A, c, rfl, hj, HR3⟩ := hrel
                      have k0 := blk_cell HR3.out.2.2.1.2.2.1 0
                      have k1 := blk_cell HR3.out.2.2.1.2.2.1 1
                      by_cases hj2 : j < ct
                      · have hv : valE m (b.toNat : Int) (bd.data.toList.drop ((W + 1) + q)) = (dataE m (b.toNat : Int)) (bd.data.toList.drop ((W + 1) + q)) := if_neg (by omega)
                        have hcall := HHV.out (b.toNat : Int) bd ((W + 1) + q) g1 HR3.out.1 (by omega) w wr HT.out HR3.out.2.2.1.2.1 HR3.out.2.2.1.1.2.1
                        rw [hv] at hcall
                        have hgood := valE_good m (b.toNat : Int) (bd.data.toList.drop ((W + 1) + q))
                        rw [hv, List.length_drop, P.len_list] at hgood
                        obtain ⟨rr, hrr0⟩ : ∃ x, x = (dataE m (b.toNat : Int)) (bd.data.toList.drop ((W + 1) + q)) := ⟨_, rfl⟩
                        rw [← hrr0] at hcall hgood
                        have HC := Lib.hid hcall
                        have HGO := Lib.hid hgood
                        have HRR := Lib.hid hrr0
                        have hwr : w6.heap.size < wr.heap.size := blk_lt HR3.out.2.2.1.2.2.1
                        clear hv hcall hgood hrr0
                        go_wp2_with fail
                        refine HC.out.mono ?_
                        rintro e w2 ⟨r1, r2, r3, r4, r5, r6, A3, c3, hrr, rfl, ho2, hi2, hb2, hk2⟩
                        have Y2 := Lib.hid (HR3.out.2.2.1.turn hi2 hb2 hk2)
                        have HX := Lib.hid (And.intro ho2 hk2)
                        obtain ⟨a0, a1, a2, a3, b0, b1, b2, b3⟩ := cells4 Y2.out.1.2.2.2.1
                        have hz2 : w6.heap.size < w2.heap.size := blk_lt Y2.out.2.2.1
                        have hz3 : w.heap.size + 1 < w2.heap.size := by omega
                        have hz3n : w.heap.size + 1 ≠ w2.heap.size := by omega
                        clear ho2 hi2 hb2 hk2 HC k0 k1
                        cases rr with
                        | error e =>
                          have hne : e ≠ 0 := HGO.out
                          simp only [P.outR, Prod.mk.injEq] at hrr
                          obtain ⟨rfl, rfl, rfl, rfl, h5, rfl⟩ := hrr
                          have hr := bodyE_err (kind := 24) (n := xk) (size := W + n) (seqE_err j _ _ _ (shortE e) HR3.out.2.1 (badly_err (by rw [List.drop_drop]; exact HRR.out.symm)) ct hj2)
                          rw [← HBE.out] at hr
                          have HD := Lib.hid hr
                          clear hr h5
                          by_cases he3 : e = 3
                          · subst he3
                            go_wp2_with fail
                            refine bodyPost_ret (results_ctt rfl _ _ (w.heap.size + 1) 25 _ (0, 0) _ rfl (blk_alloc (put4 Y2.out.1.2.2.2.1 _ _ _ _) _) Tryd.underlying25 rfl (by kernel_rfl)) rfl ?_
                            exact (rdPost_fail (x := 5) HD.out (below_put4 Y2.out.1.2.1 (by omega) _ _ _ _)).alloc _
                          · have hse : shortE e = e := if_neg he3
                            rw [hse] at HD
                            go_wp2_with fail
                            refine bodyPost_ret (results_ctt rfl _ _ (w.heap.size + 1) 25 _ (0, 0) _ rfl (blk_alloc (put4 Y2.out.1.2.2.2.1 _ _ _ _) _) Tryd.underlying25 rfl (by kernel_rfl)) rfl ?_
                            exact (rdPost_fail HD.out (below_put4 Y2.out.1.2.1 (by omega) _ _ _ _)).alloc _
                        | ok vk =>
                          obtain ⟨v, k⟩ := vk
                          simp only [P.outR, Prod.mk.injEq] at hrr
                          obtain ⟨rfl, rfl, rfl, rfl, h5, rfl⟩ := hrr
                          obtain rfl : k = r5 := by omega
                          clear h5
                          have hkl : k ≤ bd.size - ((W + 1) + q) := HGO.out
                          have hql : (W + 1) + q ≤ bd.size := HR3.out.1
                          have hgg : w.heap.size + 2 ≤ g ∧ g < g1 ∧ g1 < w6.heap.size := ⟨Y2.out.1.2.2.2.2.1, Y2.out.2.2.2.1, Y2.out.2.2.2.2⟩
                          have h6 := HR3.out.2.2.2
                          have hxl : xs.length = j := by
                            have hq := seqE_good (badly_good (dataE_good m (b.toNat : Int))) j (bd.data.toList.drop (W + 1))
                            rw [HR3.out.2.1] at hq
                            exact hq.2
                          have hP : kV.R 25 w2 w.heap.size (fun k_ => (k_ ≠ w.heap.size ∧ k_ ≠ w.heap.size + 1 ∧ k_ ≠ g ∧ k_ ≠ g1 ∧ k_ ≠ w6.heap.size) ∧ some k_ ≠ (Value.slice A xs.length c).ownBlock) (.slice A3 v.items.length c3) v.items :=
                            Kd.R_lower (Kd.R_mono (Kd.R_bound (Kd.R_new' HX.out.1 (Kd.R_lt h6))) (fun k_ hk => ⟨by have := hk.2.1; omega, hk.1.2⟩)) (by omega)
                          have hO : kV.R 25 w2 w.heap.size (fun k_ => k_ ≠ w.heap.size ∧ k_ ≠ w.heap.size + 1 ∧ k_ ≠ g ∧ k_ ≠ g1 ∧ k_ ≠ w6.heap.size) (.slice A xs.length c) xs := Kd.R_keep h6 HX.out.2 (fun k_ hk => hk.2.2.2.1)
                          have HP := Lib.hid hP
                          have HO := Lib.hid hO
                          have HL3 := Lib.hid hxl
                          have HN3 := Lib.hid (And.intro (fun e => (h6.1 _ (Eq.symm e)).1 rfl : some w.heap.size ≠ (Value.slice A xs.length c).ownBlock) (And.intro (fun e => (h6.1 _ (Eq.symm e)).2.1 rfl : some (w.heap.size + 1) ≠ (Value.slice A xs.length c).ownBlock) (And.intro (fun e => (h6.1 _ (Eq.symm e)).2.2.1 rfl : some g ≠ (Value.slice A xs.length c).ownBlock) (And.intro (fun e => (h6.1 _ (Eq.symm e)).2.2.2.1 rfl : some g1 ≠ (Value.slice A xs.length c).ownBlock) (fun e => (h6.1 _ (Eq.symm e)).2.2.2.2 rfl : some w6.heap.size ≠ (Value.slice A xs.length c).ownBlock)))))
                          clear h6 hP hO hxl
                          go_wp2_with ((with_reducible refine gate_builtin (b := .append) (xs := #[.tmp 113, .tmp 115]) rfl ?_); at_builtin; refine Kd.R_append kV (w0 := w) w.heap.size rfl (.tmp 113) (.tmp 115) 23 25 (.agg #[(.int .i64 0), (.int .u64 0), (.string ⟨#[]⟩), (.slice none 0 0)]) 56 rfl Tryd.underlying23 infoV rfl (by decide) (by omega) (.slice A xs.length c) xs v [.int .i64 v.kind, .int .u64 v.n, .string v.text, .slice A3 v.items.length c3] (fun k_ => k_ ≠ w.heap.size ∧ k_ ≠ w.heap.size + 1 ∧ k_ ≠ g ∧ k_ ≠ g1 ∧ k_ ≠ w6.heap.size) (fun k_ => (k_ ≠ w.heap.size ∧ k_ ≠ w.heap.size + 1 ∧ k_ ≠ g ∧ k_ ≠ g1 ∧ k_ ≠ w6.heap.size) ∧ some k_ ≠ (Value.slice A xs.length c).ownBlock) rfl (slice_next w2 _) ?aP (fun _ hk => hk) ?aF ?aO ?aB ?aS ?aL ?_; (case aP => exact kV_mkM _ _ _ v (Kd.R_alloc HP.out _)); (case aF => (intro k_ hk; simp at hk; omega)); (case aO => exact Kd.R_alloc HO.out _); (case aB => exact below_alloc Y2.out.1.2.1 _); (case aS => exact below_size (below_alloc Y2.out.1.2.1 _)); (case aL => have := HL3.out; omega); intro v1 w4 ho hb4 hg4 hat; obtain ⟨A', c', rfl⟩ := Kd.R_slice ho; obtain ⟨y0, y1, y2, y3, z0, z1, z2, z3⟩ := cells4 (blk_grown (blk_alloc Y2.out.1.2.2.2.1 _) hg4 HN3.out.2.1); have HY := Lib.hid (And.intro ho (And.intro hb4 hg4)); clear ho hb4 hg4 hat)
                          have HN5 : Hid (LRel m 24 xk (dataE m (b.toNat : Int)) (W + 1) (j + 1) w (w4.setCell ⟨w.heap.size + 1, 3, none⟩ (.slice A' (xs.length + 1) c')) g g1 w6.heap.size s (0 + W + n : Nat) bd (q + k) (xs ++ [v]) A' c' #[.int .i64 cd, .int .i64 24, .int .i64 W, .bool sz, .bool it]) := by
                            rw [show xs.length + 1 = (xs ++ [v]).length by simp]
                            obtain ⟨ho, hb4, hg4⟩ := HY.out
                            have Y3 := Y2.out
                            rw [show (W + 1) + q + k = (W + 1) + (q + k) by omega] at Y3
                            exact Lib.hid ⟨by omega, seqE_ok j _ _ _ _ _ HR3.out.2.1 (badly_ok (by rw [List.drop_drop]; exact HRR.out.symm)), YS.grow Y3 hb4 hg4 HN3.out _, Kd.R_far ho (fun k_ hk => hk.2.1) _⟩
                          have hctb : IntKind.u64.wrap ((j : Int) + 1) = ((j + 1 : Nat) : Int) := by simp [IntKind.wrap, IntKind.bits, IntKind.signed]; omega
                          refine ⟨⟨j + 1, xs ++ [v], q + k, A', c', by go_num, by omega, HN5⟩, by simp [intOf]; omega⟩
                      · have hjc : j = ct := by omega
                        subst hjc
                        have hql : (W + 1) + q ≤ bd.size := HR3.out.1
                        have hq0 : (bd.data.toList.drop (W + 1)).length = bd.size - (W + 1) := by rw [List.length_drop, P.len_list]
                        have hseq := HR3.out.2.1
                        obtain ⟨lf, hlf⟩ : ∃ x, x = bd.size - ((W + 1) + q) := ⟨_, rfl⟩
                        have hleft := P.left_ok bd ((W + 1) + q) 0 hql
                        rw [← hlf] at hleft
                        have HLF := Lib.hid hleft
                        have HSQ := Lib.hid hseq
                        clear hleft hseq
                        go_wp2_with fail
                        refine (Q.octet_Cursor_Left.calls g1 bd _ 0 _ _ _ _ w _ HR3.out.2.2.1.2.1 HR3.out.2.2.1.1.2.1 HLF.out).mono ?_
                        rintro e w2 ⟨rfl, hi2, hb2, hk2⟩
                        have Y2 := Lib.hid (HR3.out.2.2.1.turn hi2 hb2 hk2)
                        have R2 := Lib.hid (Kd.R_keep HR3.out.2.2.2 hk2 (fun k_ hk => hk.2.2.2.1))
                        obtain ⟨a0, a1, a2, a3, b0, b1, b2, b3⟩ := cells4 Y2.out.1.2.2.2.1
                        clear hi2 hb2 hk2 k0 k1
                        by_cases hq : lf = 0
                        · subst hq
                          have hqe : q = (bd.data.toList.drop (W + 1)).length := by rw [hq0]; omega
                          have hbe : bodyE (dataE m (b.toNat : Int)) 24 xk (W + n) j (bd.data.toList.drop (W + 1)) = if keysP 24 xs ≠ 0 then .error (keysP 24 xs) else .ok (⟨24, xk, ofBs [], xs⟩, W + n) := by
                            unfold bodyE
                            rw [HSQ.out]
                            dsimp only
                            rw [if_neg (fun h => h hqe)]
                          rw [← HBE.out] at hbe
                          have hok : P.Ok ⟨24, xk, ofBs [], xs⟩ := body_Ok (badly_okR (dataE_okR m (b.toNat : Int))) ⟨by omega, by omega⟩ HXK.out (by have hq2 := seqE_good (badly_good (dataE_good m (b.toNat : Int))) j (bd.data.toList.drop (W + 1)); rw [HSQ.out] at hq2; have := hq2.2; omega) (by rw [hq0]; omega) HSQ.out
                          obtain ⟨k, hk⟩ := (P.keys_fin _ hok).get
                          have HKF := Lib.hid hk
                          have HBB := Lib.hid hbe
                          clear hbe hok hk hqe hq0 hlf
                          go_wp2_with fail
                          refine (Q.amqvalue_keys.calls k 24 xk ⟨#[]⟩ A c xs _ _ (Kd.R_reads' R2.out).2.2 (Kd.R_reads' R2.out).2.1 HKF.out).mono ?_
                          rintro e w3 ⟨rfl, hb3⟩
                          have Y3 := Lib.hid (Y2.out.below hb3)
                          have R3 := Lib.hid (Kd.R_below R2.out hb3)
                          clear a0 a1 a2 a3 b0 b1 b2 b3 hb3
                          obtain ⟨a0, a1, a2, a3, b0, b1, b2, b3⟩ := cells4 Y3.out.1.2.2.2.1
                          have HB2 := HBB.out
                          by_cases hkz : keysP 24 xs = 0
                          · rw [if_neg (fun h => h hkz)] at HB2
                            have HD := Lib.hid HB2
                            dsimp only
                            rw [hkz]
                            clear HB2 hkz
                            go_wp2_with fail
                            go_region_held3 (fun w' => w'.cell? ⟨w.heap.size + 1, 0, none⟩ = some (.int .i64 24) ∧ w'.cell? ⟨w.heap.size + 1, 1, none⟩ = some (.int .u64 xk) ∧ w'.cell? ⟨w.heap.size + 1, 2, none⟩ = some (.string ⟨#[]⟩) ∧ w'.cell? ⟨w.heap.size + 1, 3, none⟩ = some (.slice A xs.length c)) (first | (with_reducible exact HJ.out _ _ _ _) | go_keep) ((go_at_call 100; refine (Q.octet_Cursor_At.calls g s ((0 + W + n : Nat) : Int) 0 ((0 + W + n : Nat) : Int) s ((0 + W + n : Nat) : Int) 0 w _ ?hI ?hB rfl).mono ?_; (case hI => exact Y3.out.1.1.drew); (case hB => exact below_drew Y3.out.1.2.1); (rintro e w5 ⟨rfl, hi5, hb5, hk5⟩); have D6 := Lib.hid (hk5.blk (blk_drew Y3.out.1.2.2.2.1) (by have := Y3.out.1.2.2.2.2.1; omega) (by simp)); obtain ⟨y0, y1, y2, y3, z0, z1, z2, z3⟩ := cells4 D6.out; have HJ := Lib.hid (keep4 D6.out); have HX5 := Lib.hid (And.intro hi5 (And.intro hb5 hk5)); clear hi5 hb5 hk5))
                            all_goals
                              go_wp2_with fail
                              refine bodyPost_ret (results_ctt rfl _ _ (w.heap.size + 1) 25 _ (0, 0) _ rfl (put4 D6.out _ _ _ _) Tryd.underlying25 rfl (by kernel_rfl)) rfl ?_
                              refine ⟨24, xk, ⟨#[]⟩, xs, ((0 + W + n : Nat) : Int), 0, by rw [HD.out, Nat.zero_add]; rfl, A, c, by first | rfl | simp, ?_, below_put4 HX5.out.2.1 (by omega) _ _ _ _⟩
                              exact Kd.R_mono (Kd.R_far (p := ⟨w.heap.size + 1, 3, none⟩) (Kd.R_far (p := ⟨w.heap.size + 1, 2, none⟩) (Kd.R_far (p := ⟨w.heap.size + 1, 1, none⟩) (Kd.R_far (p := ⟨w.heap.size + 1, 0, none⟩) (Kd.R_keep (Kd.R_drew R3.out) HX5.out.2.2 (fun _ hk => hk.2.2.1)) (fun _ hk => hk.2.1) _) (fun _ hk => hk.2.1) _) (fun _ hk => hk.2.1) _) (fun _ hk => hk.2.1) _) (fun _ _ => trivial)
                          · rw [if_pos hkz] at HB2
                            have HD := Lib.hid HB2
                            clear HB2
                            dsimp only
                            generalize keysP 24 xs = ky at *
                            go_wp2_with fail
                            refine bodyPost_ret (results_ctt rfl _ _ (w.heap.size + 1) 25 _ (0, 0) _ rfl (put4 Y3.out.1.2.2.2.1 _ _ _ _) Tryd.underlying25 rfl (by kernel_rfl)) rfl ?_
                            exact rdPost_fail HD.out (below_put4 Y3.out.1.2.1 (by omega) _ _ _ _)
                        · have hbe := HBE.out
                          have HD : Hid (sizedE (dataE m) ⟨cd, 24, W, sz, it⟩ s.data.toList = .error 5) := by
                            refine Lib.hid ?_
                            rw [hbe]
                            unfold bodyE
                            rw [HSQ.out]
                            dsimp only
                            rw [if_pos (fun h => hq (by rw [hq0] at h; omega))]
                          have hlz : ¬ (lf : Int) = 0 := by omega
                          clear hbe
                          go_wp2_with fail
                          refine bodyPost_ret (results_ctt rfl _ _ (w.heap.size + 1) 25 _ (0, 0) _ rfl (put4 Y2.out.1.2.2.2.1 _ _ _ _) Tryd.underlying25 rfl (by kernel_rfl)) rfl ?_
                          exact rdPost_fail HD.out (below_put4 Y2.out.1.2.1 (by omega) _ _ _ _)
end Go.Proofs.YtekpofpgkokoiaaDoor.M
