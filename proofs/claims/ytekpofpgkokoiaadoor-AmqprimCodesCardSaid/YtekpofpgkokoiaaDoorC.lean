/- The walk of amqprim.Codes: a kind's constructors, out of the table, sorted by width (the library's stable sort, of three at the most). -/
import Derived.Test.YtekpofpgkokoiaaDoorO
set_option linter.unusedVariables false
set_option linter.unusedSimpArgs false
namespace Go.Proofs.YtekpofpgkokoiaaDoor.M
open Go.RowKit Go.Proofs.YtekpofpgkokoiaaDoorW.PrintWords Go.Sort Go.Shelf

def cmpW (x y : Int) : Int := Lib.compareInt (ofC x).width (ofC y).width
set_option maxHeartbeats 1000000 in
theorem closure_width (c1 k1 w1 c2 k2 w2 : Int) (s1 i1 s2 i2 : Bool) (W : World) : Calls Tryd.prog 77 #[.agg #[.int .i64 c1, .int .i64 k1, .int .i64 w1, .bool s1, .bool i1], .agg #[.int .i64 c2, .int .i64 k2, .int .i64 w2, .bool s2, .bool i2]] W fun e w' => e = .returned (.int .i64 (Lib.compareInt w1 w2)) ∧ ∃ q os', w' = grow (W.drewN q) os' := by
  have hcon := fun W' => AnyG.cmp_Compare_int Tryd.cmpL w1 w2 W'
  change ∀ W', Calls Tryd.prog 78 _ _ _ at hcon
  generalize Lib.compareInt w1 w2 = r at hcon ⊢
  go_enter Tryd.func77, Tryd.ntmps77
  go_wp2_with (go_at_call 78; refine (hcon _).mono ?_; rintro e w' ⟨rfl, rfl⟩)
  go_ret
  exact ⟨rfl, 0, _, by rw [alloc_eq_grow, alloc_eq_grow, grow_grow]; rfl⟩
theorem cmpLaysW (blk off size : Nat) (w : World) : CmpLays Tryd.prog 77 #[] encC 5 cmpW blk off size w :=
  fun _ _ _ _ x y => closure_width x (ofC x).kind (ofC x).width y (ofC y).kind (ofC y).width (ofC x).sized (ofC x).items (ofC y).sized (ofC y).items _

set_option maxRecDepth 100000 in
set_option maxHeartbeats 2000000 in
theorem stable_calls (g cap : Nat) (d : Array Int) (w : World) (h1 : 1 ≤ d.size) (h12 : d.size ≤ 12) (hH : HoldsK encC 5 w g 0 d) (hg : g < w.heap.size) :
    Calls Tryd.prog 76 #[.slice (some ⟨g, 0, none⟩) d.size cap, .func (.func 77) #[] #[]] w fun e w' => e = .returned (.tuple #[]) ∧ ∃ n os, w' = sortWorldK encC 5 w g 0 n (Sort.insertionSort (ltOf cmpW) d 0 d.size) os := by
  have eg : ∀ args w, (callFunc 77 args).run Tryd.prog w = .ok (.enter 77 args) w := enters_of Tryd.func77 (by kernel_rfl) rfl
  have hcon := AnyQ.insertionSortCmpFunc Tryd.insL 5 Tryd.isAgg34 Tryd.sizeOf34 encC encC_len encC_one cmpW 77 #[] g 0 cap 0 d.size d w eg (cmpLaysW g 0 _ _) hH hg (Nat.zero_le _) (Nat.le_refl _) (by omega)
  change Calls Tryd.prog 160 _ _ _ at hcon
  clear hH eg
  generalize Sort.insertionSort (ltOf cmpW) d 0 d.size = r at hcon ⊢
  generalize d.size = n at *
  go_enter Tryd.func76, Tryd.ntmps76
  go_wp2
  refine wp_loop_rounds 1 ?_
  rw [rounds_succ]
  go_wp2_with (go_at_call 160; refine hcon.mono ?_; rintro e w' ⟨rfl, m, os, rfl⟩)
  refine wp_loop_rounds 1 ?_
  rw [rounds_succ]
  go_wp2
  go_end0
  go_wp2
  go_end0
  exact ⟨rfl, m, os, rfl⟩

set_option maxRecDepth 100000 in
set_option maxHeartbeats 2000000 in
theorem stable_none (A : Option Addr) (c : Nat) (w : World) :
    Calls Tryd.prog 76 #[.slice A 0 c, .func (.func 77) #[] #[]] w fun e w' => e = .returned (.tuple #[]) ∧ w = w' := by
  go_enter Tryd.func76, Tryd.ntmps76
  go_wp2
  refine wp_loop_rounds 1 ?_
  rw [rounds_succ]
  go_wp2
  refine wp_loop_rounds 1 ?_
  rw [rounds_succ]
  go_wp2
  go_end0
  go_wp2
  refine wp_loop_rounds 1 ?_
  rw [rounds_succ]
  go_wp2
  go_end0
  go_wp2
  go_end0
  exact ⟨rfl, rfl⟩

/-- What the walk over the table has taken of a kind's constructors. -/
def takenC (k : Int) (j : Nat) : List Ct := (tableL.take j).filter fun c => decide (c.kind = k)
theorem takenC_succ (k : Int) (j : Nat) (hj : j < 40) : takenC k (j + 1) = if (tc j).kind = k then takenC k j ++ [tc j] else takenC k j := by
  unfold takenC
  have e : tableL.take (j + 1) = tableL.take j ++ [tc j] := by
    rw [List.take_succ_eq_append_getElem (show j < tableL.length from hj)]
    congr 2
    unfold tc
    rw [List.getD_eq_getElem?_getD, List.getElem?_eq_getElem (show j < tableL.length from hj)]
    rfl
  rw [e, List.filter_append]
  by_cases h : (tc j).kind = k <;> simp [h]
def sortedC (k : Int) : List Int := (Sort.insertionSort (ltOf cmpW) ((takenC k 40).map (·.code)).toArray 0 (takenC k 40).length).toList
theorem kinds_all : ∀ k : Fin 26, sortedC k.val = codesL k.val := by decide +kernel
theorem kinds_none (k : Int) (h : ¬ (0 ≤ k ∧ k ≤ 25)) : takenC k 40 = [] := by
  unfold takenC
  rw [List.filter_eq_nil_iff]
  have hb : ∀ c ∈ tableL, 0 ≤ c.kind ∧ c.kind ≤ 25 := by decide
  intro c hc
  have := hb c (List.mem_of_mem_take hc)
  rw [decide_eq_true_iff]
  omega
theorem codes_none (k : Int) (h : ¬ (0 ≤ k ∧ k ≤ 25)) : codesL k = [] := by
  unfold codesL
  split
  · rfl
  · rw [List.getD_eq_getElem?_getD, List.getElem?_eq_none (show codesT.length ≤ k.toNat by show 26 ≤ k.toNat; omega)]
    rfl
theorem sorted_codesL (k : Int) : sortedC k = codesL k := by
  by_cases h : 0 ≤ k ∧ k ≤ 25
  · have := kinds_all ⟨k.toNat, by omega⟩
    rwa [show ((⟨k.toNat, by omega⟩ : Fin 26).val : Int) = k by show ((k.toNat : Nat) : Int) = k; omega] at this
  · rw [codes_none k h]
    unfold sortedC
    rw [kinds_none k h]
    decide +kernel

/-- A row of constructors, by their codes, place by place. -/
def RowC (w : World) (A : Option Addr) (l : List Int) : Prop := ∀ j, (hj : j < l.length) → ∃ g, A = some ⟨g, 0, none⟩ ∧ g < w.heap.size ∧
  w.cell? ⟨g, j * 5, none⟩ = some (.int .i64 l[j]) ∧ w.cell? ⟨g, j * 5 + 1, none⟩ = some (.int .i64 (ofC l[j]).kind) ∧ w.cell? ⟨g, j * 5 + 2, none⟩ = some (.int .i64 (ofC l[j]).width) ∧ w.cell? ⟨g, j * 5 + 3, none⟩ = some (.bool (ofC l[j]).sized) ∧ w.cell? ⟨g, j * 5 + 4, none⟩ = some (.bool (ofC l[j]).items)
theorem RowC.below {w w1 : World} {A : Option Addr} {l : List Int} (h : RowC w A l) (hb : Below w.heap.size w w1) : RowC w1 A l := fun j hj => by
  obtain ⟨g, hA, hg, h0, h1, h2, h3, h4⟩ := h j hj
  exact ⟨g, hA, Nat.lt_of_lt_of_le hg hb.size, pw_cell_below hb h0, pw_cell_below hb h1, pw_cell_below hb h2, pw_cell_below hb h3, pw_cell_below hb h4⟩
theorem flat_at (d : Array Int) (j i : Nat) (hj : j < d.size) (hi : i < 5) : (flatK encC 5 d)[j * 5 + i]! = (encC d[j]!)[i]! := by
  rw [get_flatK encC 5 d (j * 5 + i) (by omega), show (j * 5 + i) / 5 = j by omega, show (j * 5 + i) % 5 = i by omega]
theorem rowC_of_holds {w : World} {g : Nat} {d : Array Int} (h : HoldsK encC 5 w g 0 d) (hg : g < w.heap.size) : RowC w (some ⟨g, 0, none⟩) d.toList := by
  intro j hj
  have hj' : j < d.size := hj
  have hs : (flatK encC 5 d).size = d.size * 5 := size_flatK _ _ _
  have e : d[j]! = d.toList[j] := by rw [getElem!_pos d j hj']; rfl
  have at_ : ∀ i, i < 5 → w.cell? ⟨g, j * 5 + i, none⟩ = some (encC d.toList[j])[i]! := by
    intro i hi
    have h1 := (h (j * 5 + i) (by rw [hs]; omega)).1
    rw [Nat.zero_add, flat_at d j i hj' hi, e] at h1
    exact h1
  exact ⟨g, rfl, hg, at_ 0 (by omega), at_ 1 (by omega), at_ 2 (by omega), at_ 3 (by omega), at_ 4 (by omega)⟩
theorem table_enc : ∀ c ∈ tableL, cellsC c = encC c.code := by
  have h : ∀ c ∈ tableL, ofC c.code = c := by decide
  intro c hc
  unfold cellsC encC
  rw [h c hc]
theorem holds_taken {w : World} {base g n cap : Nat} {l : List Ct} (hl : ∀ c ∈ l, cellsC c = encC c.code) (h : Kd.R kC 34 w base (fun _ => True) (.slice (some ⟨g, 0, none⟩) n cap) l) (hn : n = l.length) : HoldsK encC 5 w g 0 (l.map (·.code)).toArray := by
  obtain ⟨inner, ho⟩ := Kd.R_own h
  subst hn
  obtain ⟨cur, _, hb, _⟩ := own_block ho
  obtain ⟨A, c, e, _, hC⟩ := Kd.R_reads h
  injection e with e1 e2 e3
  subst e1
  intro t ht
  refine ⟨?_, blk_frozen hb _⟩
  have hs : (flatK encC 5 (l.map (·.code)).toArray).size = l.length * 5 := by rw [size_flatK]; simp
  rw [hs] at ht
  obtain ⟨q, i, hi5, rfl⟩ : ∃ q i, i < 5 ∧ t = q * 5 + i := ⟨t / 5, t % 5, Nat.mod_lt _ (by omega), by omega⟩
  have hq : q < l.length := by omega
  obtain ⟨ad, ha, h0, h1, h2, h3, h4⟩ := atC hC (q : Int) (by omega) (by omega)
  injection ha with ha
  subst ha
  have hn : (q : Int).toNat = q := by omega
  have hp : rdC l (q : Int) = l[q] := by unfold rdC; rw [hn, List.getD_eq_getElem?_getD, List.getElem?_eq_getElem hq]; rfl
  rw [hn, add_plain, hp] at h0 h1 h2 h3 h4
  have he := hl l[q] (List.getElem_mem hq)
  have hd : (l.map (·.code)).toArray[q]! = l[q].code := by rw [getElem!_pos _ _ (by simpa using hq)]; simp
  have hf := flat_at (l.map (·.code)).toArray q i (by simpa using hq) hi5
  rw [hd, ← he] at hf
  rw [Nat.zero_add, hf]
  rcases (by omega : i = 0 ∨ i = 1 ∨ i = 2 ∨ i = 3 ∨ i = 4) with rfl | rfl | rfl | rfl | rfl
  · exact h0
  · exact h1
  · exact h2
  · exact h3
  · exact h4
theorem taken_len (k : Int) : (takenC k 40).length = (codesL k).length := by
  have hall : ∀ k : Fin 26, (takenC k.val 40).length = (codesL k.val).length := by decide +kernel
  by_cases h : 0 ≤ k ∧ k ≤ 25
  · have := hall ⟨k.toNat, by omega⟩
    rwa [show ((⟨k.toNat, by omega⟩ : Fin 26).val : Int) = k by show ((k.toNat : Nat) : Int) = k; omega] at this
  · rw [codes_none k h, kinds_none k h]
    rfl

theorem stable_all (k : Int) (v : Value) (base : Nat) (W : World) (h : Kd.R kC 34 W base (fun _ => True) v (takenC k 40)) :
    ∃ A c, v = .slice A (codesL k).length c ∧ Calls Tryd.prog 76 #[.slice A (codesL k).length c, .func (.func 77) #[] #[]] W fun e w' => e = .returned (.tuple #[]) ∧ RowC w' A (codesL k) ∧ (∀ w0, Below base w0 W → base ≤ W.heap.size → Below base w0 w') := by
  have hlen := taken_len k
  obtain ⟨A, c, hv⟩ := Kd.R_slice h
  rw [hlen] at hv
  refine ⟨A, c, hv, ?_⟩
  rcases Nat.eq_zero_or_pos (codesL k).length with h0 | h0
  · rw [h0]
    refine (stable_none A c W).mono ?_
    rintro e w' ⟨rfl, rfl⟩
    exact ⟨rfl, fun j hj => absurd hj (by omega), fun w0 hb _ => hb⟩
  · obtain ⟨inner, ho⟩ := Kd.R_own h
    obtain ⟨g, cap, hf, hg, hgl⟩ := ho.form (by omega)
    rw [hf] at hv h
    injection hv with hv1 hv2 hv3
    subst hv1 hv3
    have hH : HoldsK encC 5 W g 0 ((takenC k 40).map (·.code)).toArray := holds_taken (fun c hc => table_enc c (List.mem_of_mem_take (List.mem_filter.1 hc).1)) h rfl
    have hsd0 : (Sort.insertionSort (ltOf cmpW) ((takenC k 40).map (·.code)).toArray 0 (takenC k 40).length).toList = codesL k := sorted_codesL k
    have hsz : ((takenC k 40).map (·.code)).toArray.size = (codesL k).length := by simp [hlen]
    generalize ((takenC k 40).map (·.code)).toArray = D0 at *
    rw [hlen, ← hsz] at hsd0
    have hc := stable_calls g cap D0 W (by rw [hsz]; exact h0) (by rw [hsz]; exact Nat.le_trans (codesL_le k) (by decide)) hH hgl
    have hds : (Sort.insertionSort (ltOf cmpW) D0 0 D0.size).size = D0.size := by rw [← Array.length_toList, hsd0, hsz]
    have hsd := hsd0
    generalize Sort.insertionSort (ltOf cmpW) D0 0 D0.size = D at *
    rw [hsz] at hc
    refine hc.mono ?_
    rintro e w' ⟨rfl, n, os, rfl⟩
    have hH2 := holdsK_sortWorldK_c encC 5 W g 0 _ D n os hH hgl hds
    rw [← hsd]
    have hgl2 : g < (sortWorldK encC 5 W g 0 n D os).heap.size := by simp [sortWorldK, putRowK]; omega
    exact ⟨rfl, rowC_of_holds hH2 hgl2, fun w0 hb hle => sorted_below D hb hg hle⟩

set_option maxRecDepth 100000 in
set_option maxHeartbeats 4000000 in
theorem Codes_calls (k : Int) (w : World) : Calls Tryd.prog 20 #[.int .i64 k] w fun e w' => ∃ v : Value, e = .returned v ∧ Kd.R (Kd.int .i64) 3 w' w.heap.size (fun _ => True) v (codesL k) ∧ Below w.heap.size w w' := by
  go_enter Tryd.func20, Tryd.ntmps20
  go_wp2_with (go_at_call 75; refine (table_calls _).mono ?_; rintro e w1 ⟨v, rfl, hR, hb1⟩; obtain ⟨g, cap, hv, hg, hgl, hcells⟩ := table_cells hR; rw [hv])
  have Hc := Lib.hid hcells
  clear hcells hR hv
  go_loopw [3, 11] (fun v i wr => ∃ j : Nat, j ≤ 40 ∧ i = .int .i64 j ∧ Hid (Kd.R kC 34 wr w1.heap.size (fun _ => True) v (takenC k j)) ∧ Below w1.heap.size w1 wr) (fun _ i _ => 40 - (intOf i).toNat)
  case atStart => exact ⟨0, by omega, rfl, Lib.hid (Kd.R_nil _ _ _ _ _), Below.refl _ _⟩
  case round =>
    obtain ⟨j, hj, rfl, HR, hbw⟩ := hrel
    by_cases hlt : j < 40
    · obtain ⟨h0, h1, h2, h3, h4⟩ := Hc.out j hlt
      have k0 := pw_cell_below hbw h0
      have k1 := pw_cell_below hbw h1
      have k2 := pw_cell_below hbw h2
      have k3 := pw_cell_below hbw h3
      have k4 := pw_cell_below hbw h4
      clear h0 h1 h2 h3 h4
      by_cases hk : (tc j).kind = k
      · have hkb : ((tc j).kind == k) = true := beq_iff_eq.2 hk
        have HK := Lib.hid hk
        clear hk
        have hlen : (takenC k j).length ≤ 40 := Nat.le_trans (List.length_filter_le _ _) (by rw [List.length_take]; omega)
        go_wp2_with (at_builtin; refine Kd.R_append kC (w0 := w1) (W := wr.alloc _) w1.heap.size rfl (.tmp 19) (.tmp 21) 90 34 (.agg #[(.int .i64 0), (.int .i64 0), (.int .i64 0), (.bool false), (.bool false)]) 32 rfl Tryd.underlying90 infoC rfl (by decide) (by omega) _ (takenC k j) (tc j) (cellsC (tc j)) (fun _ => True) (fun _ => False) rfl (slice_next wr _) ?c1 (fun _ h => h.elim) (fun _ _ => trivial) ?c2 ?c3 ?c4 ?c5 ?_; (case c1 => exact kC_mkM _ _ _ _); (case c2 => exact Kd.R_below HR.out (below_new _ _)); (case c3 => exact hbw.alloc hbw.size _); (case c4 => have := hbw.size; simp; omega); (case c5 => omega); intro v1 w2 hR2 hB2 _ _; have HR2 := Lib.hid hR2; have HB2 := Lib.hid hB2; clear hR2 hB2)
        go_roundw
        case rel => exact ⟨j + 1, by omega, by go_num, Lib.hid (by rw [takenC_succ k j hlt, if_pos HK.out]; exact HR2.out), HB2.out⟩
        case measure => simp [intOf]; omega
      · have hkb : ((tc j).kind == k) = false := beq_eq_false_iff_ne.2 hk
        have HK := Lib.hid hk
        clear hk
        go_wp2
        go_roundw
        case rel => exact ⟨j + 1, by omega, by go_num, Lib.hid (by rw [takenC_succ k j hlt, if_neg HK.out]; exact Kd.R_below HR.out (below_new _ _)), hbw.alloc hbw.size _⟩
        case measure => simp [intOf]; omega
    · obtain rfl : j = 40 := by omega
      obtain ⟨A2, c2, hv2, hst⟩ := stable_all k _ _ _ HR.out
      subst hv2
      go_wp2_with (go_at_call 76; refine hst.mono ?_; rintro e w2 ⟨rfl, hrow, hbel⟩; have HB2 := hbel _ hbw hbw.size; have HROW := Lib.hid hrow; clear hrow hbel)
      clear HR hst
      have hle := codesL_le k
      go_loopw [6, 28] (fun v i wr => ∃ j : Nat, j ≤ (codesL k).length ∧ i = .int .i64 j ∧ Hid (Kd.R (Kd.int .i64) 3 wr w2.heap.size (fun _ => True) v ((codesL k).take j)) ∧ Below w2.heap.size w2 wr) (fun _ i _ => (codesL k).length - (intOf i).toNat)
      case atStart => exact ⟨0, by omega, rfl, Lib.hid (Kd.R_nil _ _ _ _ _), Below.refl _ _⟩
      case round =>
        obtain ⟨j, hj, rfl, HR, hbr⟩ := hrel
        by_cases hlt : j < (codesL k).length
        · obtain ⟨g2, rfl, hg2, h0, h1, h2, h3, h4⟩ := HROW.out j hlt
          have k0 := pw_cell_below hbr h0
          have k1 := pw_cell_below hbr h1
          have k2 := pw_cell_below hbr h2
          have k3 := pw_cell_below hbr h3
          have k4 := pw_cell_below hbr h4
          clear h0 h1 h2 h3 h4
          have hlen : ((codesL k).take j).length ≤ 3 := Nat.le_trans (List.length_take_le _ _) (by omega)
          have hts : (codesL k).take (j + 1) = (codesL k).take j ++ [(codesL k)[j]] := List.take_succ_eq_append_getElem hlt
          have HTS := Lib.hid hts
          clear hts
          go_wp2_with (at_builtin; refine Kd.R_append (Kd.int .i64) (w0 := w2) (W := wr.alloc _) w2.heap.size rfl (.tmp 32) (.tmp 35) 28 3 (.int .i64 0) 8 rfl Tryd.underlying28 infoInt rfl (by decide) (by omega) _ ((codesL k).take j) (codesL k)[j] [.int .i64 (codesL k)[j]] (fun _ => True) (fun _ => False) rfl (slice_next wr _) ?c1 (fun _ h => h.elim) (fun _ _ => trivial) ?c2 ?c3 ?c4 ?c5 ?_; (case c1 => rfl); (case c2 => exact Kd.R_below HR.out (below_new _ _)); (case c3 => exact hbr.alloc hbr.size _); (case c4 => have := hbr.size; simp; omega); (case c5 => omega); intro v1 w3 hR3 hB3 _ _; have HR3 := Lib.hid hR3; have HB3 := Lib.hid hB3; clear hR3 hB3)
          go_roundw
          case rel => exact ⟨j + 1, by omega, by go_num, Lib.hid (by rw [HTS.out]; exact HR3.out), HB3.out⟩
          case measure => simp [intOf]; omega
        · obtain rfl : j = (codesL k).length := by omega
          have hR := HR.out
          rw [List.take_length] at hR
          go_wp2
          go_ret
          exact ⟨_, rfl, Kd.R_lower hR (Nat.le_trans hb1.size HB2.size), below_step (below_step hb1 HB2) hbr⟩
end Go.Proofs.YtekpofpgkokoiaaDoor.M
