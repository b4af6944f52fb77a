/- The walk of amqprim.table, whole. -/
import Derived.Test.YtekpofpgkokoiaaDoorT
set_option linter.unusedVariables false
set_option linter.unusedSimpArgs false
namespace Go.Proofs.YtekpofpgkokoiaaDoor.M
open Go.RowKit Go.Proofs.YtekpofpgkokoiaaDoorW.PrintWords Go.Sort Go.Shelf

theorem lit_row (w : World) (cs : Array Value) (h : cs.toList = litCells) : (w.alloc (.cells cs 34)).ownsRow w.heap.size 34 5 (.slice (some ⟨w.heap.size, 0, none⟩) 28 28) 28 litCells := by
  have hs : cs.size = 28 * 5 := by rw [← Array.length_toList, h]; rfl
  have := World.ownsRow_lit (base := w.heap.size) (e := 34) (size := 5) w cs 28 (Nat.le_refl _) (by unfold maxLen; omega) hs
  rwa [h] at this

theorem own_block {w : World} {base g n cap e : Nat} {size : Nat} {xs : List Value} (h : w.ownsRow base e size (.slice (some ⟨g, 0, none⟩) n cap) n xs) : ∃ cur, base ≤ g ∧ w.heap[g]? = some (.cells cur e (0, 0)) ∧ n ≤ cap ∧ cap ≤ maxLen ∧ cur.size = cap * size ∧ cur.toList.take (n * size) = xs := by
  rcases h.2 with ⟨h', _⟩ | ⟨g', cap', cur, h', r⟩
  · cases h'
  · injection h' with h1 h2 h3
    injection h1 with h1
    injection h1 with h1
    subst h1 h3
    exact ⟨cur, r⟩
theorem get_flat (d : Array Int) (j : Nat) (hj : j < (flatK encC 5 d).size) : (flatK encC 5 d).toList[j]? = some (flatK encC 5 d)[j]! := by
  rw [Array.getElem?_toList, Array.getElem?_eq_getElem hj, getElem!_pos (flatK encC 5 d) j hj]
theorem holds_made {w : World} {base g cap : Nat} (h : w.ownsRow base 34 5 (.slice (some ⟨g, 0, none⟩) 40 cap) 40 madeCells40) : HoldsK encC 5 w g 0 madeCodes.toArray := by
  obtain ⟨cur, _, hb, _⟩ := own_block h
  intro j hj
  refine ⟨?_, blk_frozen hb _⟩
  have h1 := h.cells (g := g) rfl j (flatK encC 5 madeCodes.toArray)[j]! (by rw [made_flat]; exact get_flat _ j hj)
  rw [add_plain] at h1
  rw [Nat.zero_add]
  exact h1
theorem reps_cells (R : Ct → List Value → Prop) (h : ∀ p, R p (cellsC p)) (l : List Ct) : Reps R 5 l (l.flatMap cellsC) := by
  have key : ∀ l : List Ct, Reps R 5 l.reverse (l.reverse.flatMap cellsC) := by
    intro l
    induction l with
    | nil => exact Reps.none _ _
    | cons a l ih =>
      rw [List.reverse_cons, List.flatMap_append]
      exact ih.snoc (h a) rfl
  have := key l.reverse
  rwa [List.reverse_reverse] at this
/-- The sorted row, read as constructors. -/
theorem sorted_row {w : World} {base g n cap : Nat} {os : Array Obj} (h : w.ownsRow base 34 5 (.slice (some ⟨g, 0, none⟩) 40 cap) 40 madeCells40) :
    Kd.R kC 34 (sortWorldK encC 5 w g 0 n allCodes.toArray os) base (fun _ => True) (.slice (some ⟨g, 0, none⟩) 40 cap) tableL := by
  obtain ⟨cur, hg, hb, hn, hc, hs, _⟩ := own_block h
  obtain ⟨cur', hb', hs'⟩ := sorted_block (n := n) (os := os) allCodes.toArray hb
  have hH := holdsK_sortWorldK_c encC 5 w g 0 madeCodes.toArray allCodes.toArray n os (holds_made h) (blk_lt hb) (by decide)
  have hF : (flatK encC 5 allCodes.toArray).size = 200 := by rw [size_flatK]; decide
  have hin : cur'.toList.take (40 * 5) = tableL.flatMap cellsC := by
    rw [← sorted_flat]
    apply List.ext_getElem?
    intro j
    rcases Nat.lt_or_ge j 200 with hj | hj
    · have h1 := (hH j (by rw [hF]; exact hj)).1
      rw [Nat.zero_add, blk_cell hb' j] at h1
      rw [List.getElem?_take_of_lt hj, Array.getElem?_toList, h1, get_flat _ j (by rw [hF]; exact hj)]
      rfl
    · rw [List.getElem?_eq_none (by rw [List.length_take]; omega), List.getElem?_eq_none (by rw [Array.length_toList, hF]; omega)]
  refine ⟨fun _ _ => trivial, tableL.flatMap cellsC, ⟨by kernel_rfl, .inr ⟨g, cap, cur', rfl, hg, hb', hn, hc, by rw [hs', hs]; rfl, hin⟩⟩, reps_cells _ (fun p => kC_mkM _ _ _ p) _⟩

set_option maxRecDepth 100000 in
set_option maxHeartbeats 8000000 in
theorem table_calls (w : World) : Calls Tryd.prog 75 #[] w fun e w' => ∃ v, e = .returned v ∧ Kd.R kC 34 w' w.heap.size (fun _ => True) v tableL ∧ Below w.heap.size w w' := by
  go_enter Tryd.func75, Tryd.ntmps75
  go_wp2_with fail
  refine (closure_sized 160 19 false _ (.slice (some ⟨w.heap.size, 0, none⟩) 28 28) 28 litCells w.heap.size _ (by omega) ?h1 ((lit_row w _ (by kernel_rfl)).alloc _) (by simp [Value.ownBlock]) (by omega) (by omega) (by omega)).mono ?_
  case h1 => exact (by simpa using heap_alloc_new (w.alloc _) _)
  rintro e W1 ⟨rfl, v1, hk1, ho1, hn1, hB1⟩
  replace hB1 := (((Below.refl w.heap.size w).alloc (Nat.le_refl _) _).alloc (by simp) _).trans hB1
  have HK1 := Lib.hid hk1
  clear hk1
  go_wp2_with fail
  refine (closure_sized 161 20 false _ v1 30 _ w.heap.size _ (by omega) HK1.out ho1 hn1 (by omega) (by omega) (by omega)).mono ?_
  rintro e W2 ⟨rfl, v2, hk2, ho2, hn2, hB2⟩
  replace hB2 := hB1.trans hB2
  clear ho1 hn1 HK1 hB1
  have HK2 := Lib.hid hk2
  clear hk2
  go_wp2_with fail
  refine (closure_sized 163 21 false _ v2 32 _ w.heap.size _ (by omega) HK2.out ho2 hn2 (by omega) (by omega) (by omega)).mono ?_
  rintro e W3 ⟨rfl, v3, hk3, ho3, hn3, hB3⟩
  replace hB3 := hB2.trans hB3
  clear ho2 hn2 HK2 hB2
  have HK3 := Lib.hid hk3
  clear hk3
  go_wp2_with fail
  refine (closure_sized 192 22 true _ v3 34 _ w.heap.size _ (by omega) HK3.out ho3 hn3 (by omega) (by omega) (by omega)).mono ?_
  rintro e W4 ⟨rfl, v4, hk4, ho4, hn4, hB4⟩
  replace hB4 := hB3.trans hB4
  clear ho3 hn3 HK3 hB3
  have HK4 := Lib.hid hk4
  clear hk4
  go_wp2_with fail
  refine (closure_sized 193 23 true _ v4 36 _ w.heap.size _ (by omega) HK4.out ho4 hn4 (by omega) (by omega) (by omega)).mono ?_
  rintro e W5 ⟨rfl, v5, hk5, ho5, hn5, hB5⟩
  replace hB5 := hB4.trans hB5
  clear ho4 hn4 HK4 hB4
  have HK5 := Lib.hid hk5
  clear hk5
  go_wp2_with fail
  refine (closure_sized 224 24 true _ v5 38 _ w.heap.size _ (by omega) HK5.out ho5 hn5 (by omega) (by omega) (by omega)).mono ?_
  rintro e W6 ⟨rfl, v6, hk6, ho6, hn6, hB6⟩
  replace hB6 := hB5.trans hB6
  clear ho5 hn5 HK5 hB5
  have hcell := blk_cell hk6 0
  have HK6 := Lib.hid hk6
  clear hk6
  obtain ⟨g, cap, hv6, hg, hglt⟩ := ho6.form (by omega)
  have HV := Lib.hid hv6
  clear hv6
  rw [HV.out] at hcell hn6 ho6
  have hHo := holds_made ho6
  have eg : ∀ args w, (callFunc 127 args).run Tryd.prog w = .ok (.enter 127 args) w := enters_of Tryd.func127 (by kernel_rfl) rfl
  have hcon := AnyQ.slices_SortFunc_total Tryd.sortL 5 Tryd.isAgg34 Tryd.sizeOf34 encC encC_len encC_one cmpC swoC 127 #[] g 0 cap madeCodes.toArray W6 eg (cmpLaysC g 0 _ _) hHo hglt (by decide) (fun x y h1 h2 => by rw [ltC] at h1 h2; simp at h1 h2; omega)
  change Calls Tryd.prog 126 _ _ _ at hcon
  rw [show madeCodes.toArray.toList = madeCodes from rfl, sorted_codes] at hcon
  have HO := Lib.hid ho6
  clear ho6 hHo
  go_wp2_with (go_at_call 126; refine hcon.mono ?_; rintro e w' ⟨rfl, n, os, rfl⟩; have hbk := sorted_other (n := n) (os := os) allCodes.toArray HK6.out (show w.heap.size + 1 ≠ g from fun h => hn6 (by rw [h]; rfl)); have hcell2 := blk_cell hbk 0; clear hbk)
  go_ret
  refine ⟨v6, rfl, ?_, sorted_below _ hB6 hg hB6.size⟩
  rw [HV.out]
  exact sorted_row HO.out
end Go.Proofs.YtekpofpgkokoiaaDoor.M
