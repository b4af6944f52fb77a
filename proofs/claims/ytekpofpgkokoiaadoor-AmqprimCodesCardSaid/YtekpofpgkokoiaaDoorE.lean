/- The walk of amqprim.Put: what is put by each width is told by a map to method expressions. -/
import Derived.Test.YtekpofpgkokoiaaDoorD
import Derived.Deep.RegionWith
import Derived.Deep.RegionHeld3
set_option linter.unusedVariables false
set_option linter.unusedSimpArgs false
namespace Go.Proofs.YtekpofpgkokoiaaDoor.M
open Go.RowKit Go.Proofs.YtekpofpgkokoiaaDoorW.PrintWords

theorem push_set (h : Array Obj) (o o' : Obj) : (h.push o).setIfInBounds h.size o' = h.push o' := by
  apply Array.ext_getElem?
  intro i
  rw [Array.getElem?_setIfInBounds, Array.getElem?_push, Array.getElem?_push, Array.size_push]
  by_cases h' : h.size = i
  · subst h'; simp
  · simp [h', Ne.symm h']
/-- A new entry of a map literal that has just been laid. -/
theorem ins_int (mty kt et : TypeId) (hm : Tryd.prog.underlying mty = some (.map kt et)) (hk : Tryd.prog.underlying kt = some (.int .i64)) (es : Array MapEntry) (n : Nat) (c : Int) (val : Value)
    (hf : Instr.findNow (.int .i64) (.int .i64 c) es.toList 0 = some none) (W : World) (r : Nat) (hr : r = W.heap.size) :
    (Instr.mapUpdate mty (.map (some r)) (.int .i64 c) val).run Tryd.prog (W.alloc (.map es n)) = .ok () (W.alloc (.map (es.push ⟨.int .i64 c, val, n⟩) (n + 1))) := by
  subst hr
  have hb : (W.alloc (.map es n)).heap[W.heap.size]? = some (.map es n) := blk_new W _
  have hc : (Instr.checkKey false 10000 kt (.int .i64 c)).run Tryd.prog (W.alloc (.map es n)) = .ok () (W.alloc (.map es n)) := MapKept.run_checkKey (k := .int .i64 c) hk (by simp [MapKept.IsKey]) false 9999
  have hE : (W.alloc (.map es n)).heap.setIfInBounds W.heap.size (.map (es.push ⟨.int .i64 c, val, n⟩) (n + 1)) = W.heap.push (.map (es.push ⟨.int .i64 c, val, n⟩) (n + 1)) := push_set _ _ _
  simp [Instr.mapUpdate, run_underlying hm, MapKept.run_getObj_map hb, hc, MapKept.run_findKey hk hf, MapKept.run_setObj_map _ hb, Result.andThen, hE]
  rfl
theorem look_int (mty kt et : TypeId) (hm : Tryd.prog.underlying mty = some (.map kt et)) (hk : Tryd.prog.underlying kt = some (.int .i64)) (es : Array MapEntry) (n : Nat) (c : Int) (i : Nat) (val : Value)
    (hf : Instr.findNow (.int .i64) (.int .i64 c) es.toList 0 = some (some (i, val))) (W : World) (r : Nat) (hr : r = W.heap.size) :
    (Instr.lookup mty (.map (some r)) (.int .i64 c) false).run Tryd.prog (W.alloc (.map es n)) = .ok val (W.alloc (.map es n)) := by
  subst hr
  have hb : (W.alloc (.map es n)).heap[W.heap.size]? = some (.map es n) := blk_new W _
  have hc : ∀ b, (Instr.checkKey b 10000 kt (.int .i64 c)).run Tryd.prog (W.alloc (.map es n)) = .ok () (W.alloc (.map es n)) := fun b => MapKept.run_checkKey (k := .int .i64 c) hk (by simp [MapKept.IsKey]) b 9999
  simp [Instr.lookup, run_underlying hm, MapKept.run_getObj_map hb, hc, MapKept.run_findKey hk hf, Result.andThen]
def fnV (k : Nat) : Value := .func (.func k) #[] #[]

theorem width_cases (code : Int) : (ofC code).width = 0 ∨ (ofC code).width = 1 ∨ (ofC code).width = 2 ∨ (ofC code).width = 4 ∨ (ofC code).width = 8 ∨ (ofC code).width = 16 := by
  have h : ∀ c ∈ tableL, c.width = 0 ∨ c.width = 1 ∨ c.width = 2 ∨ c.width = 4 ∨ c.width = 8 ∨ c.width = 16 := by decide
  unfold ofC
  cases ho : ofO code with
  | none => exact .inl rfl
  | some c => exact h c (List.mem_of_find?_eq_some ho)

theorem wrap_u64 {n : Int} (h0 : 0 ≤ n) (h1 : n < 18446744073709551616) : IntKind.u64.wrap n = n := IntWalk.u64_in n ⟨h0, by omega⟩
section
variable (c1 c2 c3 : Int) (c4 c5 : Bool) (k n : Int) (s : ByteArray) (A : Option Addr) (l cp : Nat) (w : World)
set_option maxHeartbeats 2000000 in
theorem none_calls : Calls Tryd.prog 88 #[.agg #[.int .i64 c1, .int .i64 c2, .int .i64 c3, .bool c4, .bool c5, .int .i64 k, .int .u64 n, .string s, .slice A l cp]] w fun e w' => e = .returned (.string ⟨#[]⟩) ∧ Below w.heap.size w w' := by
  go_enter Tryd.func88, Tryd.ntmps88
  go_wp2
  go_ret
  exact ⟨rfl, by first | exact Below.refl _ _ | exact below_new _ _⟩
set_option maxHeartbeats 2000000 in
theorem bytes_calls : Calls Tryd.prog 90 #[.agg #[.int .i64 c1, .int .i64 c2, .int .i64 c3, .bool c4, .bool c5, .int .i64 k, .int .u64 n, .string s, .slice A l cp]] w fun e w' => e = .returned (.string s) ∧ Below w.heap.size w w' := by
  go_enter Tryd.func90, Tryd.ntmps90
  go_wp2
  go_ret
  exact ⟨rfl, below_new _ _⟩
set_option maxHeartbeats 2000000 in
theorem number_calls (h0 : 0 ≤ n) (h1 : n < 18446744073709551616) (hc : c3 = 0 ∨ c3 = 1 ∨ c3 = 2 ∨ c3 = 4 ∨ c3 = 8) : Calls Tryd.prog 89 #[.agg #[.int .i64 c1, .int .i64 c2, .int .i64 c3, .bool c4, .bool c5, .int .i64 k, .int .u64 n, .string s, .slice A l cp]] w fun e w' => e = .returned (.string (beB n c3)) ∧ Below w.heap.size w w' := by
  go_enter Tryd.func89, Tryd.ntmps89
  go_wp2_with (go_at_call 132; refine (oput_calls _ _ _ h0 h1 hc).mono ?_; rintro e w1 ⟨rfl, hb⟩)
  go_ret
  exact ⟨rfl, below_step (below_new _ _) hb⟩
set_option maxRecDepth 100000 in
set_option maxHeartbeats 2000000 in
theorem sized_calls (hs : s.size ≤ 140737488351232) (hc : c3 = 0 ∨ c3 = 1 ∨ c3 = 2 ∨ c3 = 4 ∨ c3 = 8) : Calls Tryd.prog 87 #[.agg #[.int .i64 c1, .int .i64 c2, .int .i64 c3, .bool c4, .bool c5, .int .i64 k, .int .u64 n, .string s, .slice A l cp]] w fun e w' => e = .returned (.string (beB s.size c3 ++ s)) ∧ Below w.heap.size w w' := by
  have hs1 : (s.size : Int) < 18446744073709551616 := by omega
  have hwr : IntKind.u64.wrap (s.size : Int) = (s.size : Int) := wrap_u64 (by omega) hs1
  have hcat : (beB s.size c3).size + s.size ≤ 9223372036854775807 := by rw [beB_size]; omega
  have HO := fun W => oput_calls s.size c3 W (by omega) hs1 hc
  clear hs1 hs hc
  generalize beB s.size c3 = B at *
  have hcat' : ¬ 9223372036854775807 < B.size + s.size := by omega
  go_enter Tryd.func87, Tryd.ntmps87
  go_wp2
  go_region_held3 (fun w' => w'.cell? ⟨w.heap.size, 7, none⟩ = some (.string s) ∧ w'.cell? ⟨w.heap.size, 2, none⟩ = some (.int .i64 c3)) (go_keep) ((go_at_call 132; refine (HO _).mono ?_; rintro e w1 ⟨rfl, hb⟩; obtain ⟨q7, q2⟩ : World.cell? _ ⟨w.heap.size, 7, none⟩ = some (.string s) ∧ World.cell? _ ⟨w.heap.size, 2, none⟩ = some (.int .i64 c3) := (by assumption); have k7 := pw_cell_below hb q7; have k2 := pw_cell_below hb q2; clear q7 q2))
  all_goals
    go_wp2
    go_ret
    exact ⟨rfl, below_step (below_drew (below_new _ _)) hb⟩
end

theorem putP_bad {code : Int} {v : Vl} (h : ¬ checkP v = 0) : putP code v = (⟨#[]⟩, checkP v) := by unfold putP; rw [if_neg h]
theorem putP_unfit {code : Int} {v : Vl} (h : checkP v = 0) (hf : fitsP code v = false) : putP code v = (⟨#[]⟩, 2) := by unfold putP; rw [if_pos h, if_neg (by rw [hf]; simp)]
theorem putP_sized {code : Int} {v : Vl} (h : checkP v = 0) (hf : fitsP code v = true) (hs : (ofC code).sized = true) : putP code v = (beB v.text.size (ofC code).width ++ v.text, 0) := by unfold putP; rw [if_pos h, if_pos hf, if_pos hs]
theorem putP_bytes {code : Int} {v : Vl} (h : checkP v = 0) (hf : fitsP code v = true) (hs : (ofC code).sized = false) (hw : (ofC code).width = 16) : putP code v = (v.text, 0) := by unfold putP; rw [if_pos h, if_pos hf, if_neg (by rw [hs]; simp), if_pos hw]
theorem putP_num {code : Int} {v : Vl} (h : checkP v = 0) (hf : fitsP code v = true) (hs : (ofC code).sized = false) (hw : ¬ (ofC code).width = 16) : putP code v = (beB v.n (ofC code).width, 0) := by unfold putP; rw [if_pos h, if_pos hf, if_neg (by rw [hs]; simp), if_neg hw]
theorem sized_width {code : Int} (h : (ofC code).sized = true) : (ofC code).width = 0 ∨ (ofC code).width = 1 ∨ (ofC code).width = 2 ∨ (ofC code).width = 4 ∨ (ofC code).width = 8 := by
  have h' : ∀ c ∈ tableL, c.sized = true → c.width = 1 ∨ c.width = 4 := by decide
  unfold ofC at h ⊢
  cases ho : ofO code with
  | none => exact .inl rfl
  | some c =>
    rw [ho] at h
    rcases h' c (List.mem_of_find?_eq_some ho) h with e | e
    · exact .inr (.inl e)
    · exact .inr (.inr (.inr (.inl e)))
def es0 : Array MapEntry := #[]
def es6 : List (Int × Nat) := [(0, 88), (1, 89), (2, 89), (4, 89), (8, 89), (16, 90)]

set_option maxRecDepth 100000 in
set_option maxHeartbeats 4000000 in
theorem Put_calls (code : Int) (k n : Int) (s : ByteArray) (items : List Vl) (A : Option Addr) (cp : Nat) (w : World) (h0 : 0 ≤ n) (h1 : n < 18446744073709551616) (hs : s.size ≤ 140737488351232) (hT : Tb w) (hl : items.length ≤ 9223372036854775807) :
    Calls Tryd.prog 25 #[.int .i64 code, .agg #[.int .i64 k, .int .u64 n, .string s, .slice A items.length cp]] w fun e w' => e = .returned (.tuple #[.string (putP code ⟨k, n, s, items⟩).1, .int .i64 (putP code ⟨k, n, s, items⟩).2]) ∧ Below w.heap.size w w' := by
  have hs' : s.size ≤ 9223372036854775807 := by omega
  by_cases hck : checkP ⟨k, n, s, items⟩ = 0
  · by_cases hfit : fitsP code ⟨k, n, s, items⟩ = true
    · by_cases hsz : (ofC code).sized = true
      · rw [putP_sized hck hfit hsz]
        have hw := sized_width hsz
        have HC := Lib.hid hck
        have HF := Lib.hid hfit
        have HW := Lib.hid hw
        clear hck hfit hw
        go_enter Tryd.func25, Tryd.ntmps25
        go_wp2_with (first | (go_at_call 21; refine (Check_calls _ _ _ _ _ _ _ h0 h1 hs' (hT.alloc _) hl).mono ?_; rw [HC.out]; rintro e w1 ⟨rfl, hb1⟩; have HB1 := below_step (below_new _ _) hb1; obtain ⟨hc1, hf1⟩ := kept_cells hb1; have hz1 := new_lt hb1) | (go_at_call 24; refine (Fits_calls _ _ _ _ _ _ _ _ h0 h1 hs' (hT.below HB1) hl).mono ?_; rw [HF.out]; rintro e w2 ⟨rfl, hb2⟩; have HB2 := below_step HB1 hb2; obtain ⟨hc2, hf2⟩ := kept_cells hb2; have hz2 := Nat.lt_of_lt_of_le hz1 hb2.size) | (go_at_call 23; refine (Of_calls _ _).mono ?_; rintro e w3 ⟨rfl, hb3⟩; have HB3 := below_step HB2 hb3; obtain ⟨hc3, hf3⟩ := kept_cells hb3; have hz3 := Nat.lt_of_lt_of_le hz2 hb3.size) | (go_at_call 87; refine (sized_calls _ _ _ _ _ _ _ _ _ _ _ _ hs HW.out).mono ?_; rintro e w4 ⟨rfl, hb4⟩))
        go_ret2
        exact ⟨rfl, below_step (below_alloc HB3 _) hb4⟩
      · simp only [Bool.not_eq_true] at hsz
        have hmm := @run_makeMap Tryd.prog
        have hi0 := ins_int 106 _ _ Tryd.underlying106 Tryd.underlying3 #[] 0 0 (.func (.func 88) #[] #[]) rfl
        have hi1 := ins_int 106 _ _ Tryd.underlying106 Tryd.underlying3 #[⟨.int .i64 0, .func (.func 88) #[] #[], 0⟩] 1 1 (.func (.func 89) #[] #[]) rfl
        have hi2 := ins_int 106 _ _ Tryd.underlying106 Tryd.underlying3 #[⟨.int .i64 0, .func (.func 88) #[] #[], 0⟩, ⟨.int .i64 1, .func (.func 89) #[] #[], 1⟩] 2 2 (.func (.func 89) #[] #[]) rfl
        have hi3 := ins_int 106 _ _ Tryd.underlying106 Tryd.underlying3 #[⟨.int .i64 0, .func (.func 88) #[] #[], 0⟩, ⟨.int .i64 1, .func (.func 89) #[] #[], 1⟩, ⟨.int .i64 2, .func (.func 89) #[] #[], 2⟩] 3 4 (.func (.func 89) #[] #[]) rfl
        have hi4 := ins_int 106 _ _ Tryd.underlying106 Tryd.underlying3 #[⟨.int .i64 0, .func (.func 88) #[] #[], 0⟩, ⟨.int .i64 1, .func (.func 89) #[] #[], 1⟩, ⟨.int .i64 2, .func (.func 89) #[] #[], 2⟩, ⟨.int .i64 4, .func (.func 89) #[] #[], 3⟩] 4 8 (.func (.func 89) #[] #[]) rfl
        have hi5 := ins_int 106 _ _ Tryd.underlying106 Tryd.underlying3 #[⟨.int .i64 0, .func (.func 88) #[] #[], 0⟩, ⟨.int .i64 1, .func (.func 89) #[] #[], 1⟩, ⟨.int .i64 2, .func (.func 89) #[] #[], 2⟩, ⟨.int .i64 4, .func (.func 89) #[] #[], 3⟩, ⟨.int .i64 8, .func (.func 89) #[] #[], 4⟩] 5 16 (.func (.func 90) #[] #[]) rfl
        rcases width_cases code with hw | hw | hw | hw | hw | hw
        · rw [putP_num hck hfit hsz (by rw [hw]; decide)]
          have hlk := look_int 106 _ _ Tryd.underlying106 Tryd.underlying3 #[⟨.int .i64 0, .func (.func 88) #[] #[], 0⟩, ⟨.int .i64 1, .func (.func 89) #[] #[], 1⟩, ⟨.int .i64 2, .func (.func 89) #[] #[], 2⟩, ⟨.int .i64 4, .func (.func 89) #[] #[], 3⟩, ⟨.int .i64 8, .func (.func 89) #[] #[], 4⟩, ⟨.int .i64 16, .func (.func 90) #[] #[], 5⟩] 6 0 0 (.func (.func 88) #[] #[]) rfl
          have HC := Lib.hid hck
          have HF := Lib.hid hfit
          clear hck hfit
          go_enter Tryd.func25, Tryd.ntmps25
          go_wp2_with (first | (go_at_call 21; refine (Check_calls _ _ _ _ _ _ _ h0 h1 hs' (hT.alloc _) hl).mono ?_; rw [HC.out]; rintro e w1 ⟨rfl, hb1⟩; have HB1 := below_step (below_new _ _) hb1; obtain ⟨hc1, hf1⟩ := kept_cells hb1; have hz1 := new_lt hb1) | (go_at_call 24; refine (Fits_calls _ _ _ _ _ _ _ _ h0 h1 hs' (hT.below HB1) hl).mono ?_; rw [HF.out]; rintro e w2 ⟨rfl, hb2⟩; have HB2 := below_step HB1 hb2; obtain ⟨hc2, hf2⟩ := kept_cells hb2; have hz2 := Nat.lt_of_lt_of_le hz1 hb2.size) | (go_at_call 23; refine (Of_calls _ _).mono ?_; rintro e w3 ⟨rfl, hb3⟩; have HB3 := below_step HB2 hb3; obtain ⟨hc3, hf3⟩ := kept_cells hb3; have hz3 := Nat.lt_of_lt_of_le hz2 hb3.size) | (go_at_call 88; refine (none_calls _ _ _ _ _ _ _ _ _ _ _ _).mono ?_; rintro e w4 ⟨rfl, hb4⟩))
          go_ret2
          exact ⟨by rw [hw]; rfl, below_step (below_alloc (below_alloc HB3 _) _) hb4⟩
        · rw [putP_num hck hfit hsz (by rw [hw]; decide)]
          have hlk := look_int 106 _ _ Tryd.underlying106 Tryd.underlying3 #[⟨.int .i64 0, .func (.func 88) #[] #[], 0⟩, ⟨.int .i64 1, .func (.func 89) #[] #[], 1⟩, ⟨.int .i64 2, .func (.func 89) #[] #[], 2⟩, ⟨.int .i64 4, .func (.func 89) #[] #[], 3⟩, ⟨.int .i64 8, .func (.func 89) #[] #[], 4⟩, ⟨.int .i64 16, .func (.func 90) #[] #[], 5⟩] 6 1 1 (.func (.func 89) #[] #[]) rfl
          have HC := Lib.hid hck
          have HF := Lib.hid hfit
          clear hck hfit
          go_enter Tryd.func25, Tryd.ntmps25
          go_wp2_with (first | (go_at_call 21; refine (Check_calls _ _ _ _ _ _ _ h0 h1 hs' (hT.alloc _) hl).mono ?_; rw [HC.out]; rintro e w1 ⟨rfl, hb1⟩; have HB1 := below_step (below_new _ _) hb1; obtain ⟨hc1, hf1⟩ := kept_cells hb1; have hz1 := new_lt hb1) | (go_at_call 24; refine (Fits_calls _ _ _ _ _ _ _ _ h0 h1 hs' (hT.below HB1) hl).mono ?_; rw [HF.out]; rintro e w2 ⟨rfl, hb2⟩; have HB2 := below_step HB1 hb2; obtain ⟨hc2, hf2⟩ := kept_cells hb2; have hz2 := Nat.lt_of_lt_of_le hz1 hb2.size) | (go_at_call 23; refine (Of_calls _ _).mono ?_; rintro e w3 ⟨rfl, hb3⟩; have HB3 := below_step HB2 hb3; obtain ⟨hc3, hf3⟩ := kept_cells hb3; have hz3 := Nat.lt_of_lt_of_le hz2 hb3.size) | (go_at_call 89; refine (number_calls _ _ _ _ _ _ _ _ _ _ _ _ h0 h1 (by omega)).mono ?_; rintro e w4 ⟨rfl, hb4⟩))
          go_ret2
          exact ⟨by rw [hw]; rfl, below_step (below_alloc (below_alloc HB3 _) _) hb4⟩
        · rw [putP_num hck hfit hsz (by rw [hw]; decide)]
          have hlk := look_int 106 _ _ Tryd.underlying106 Tryd.underlying3 #[⟨.int .i64 0, .func (.func 88) #[] #[], 0⟩, ⟨.int .i64 1, .func (.func 89) #[] #[], 1⟩, ⟨.int .i64 2, .func (.func 89) #[] #[], 2⟩, ⟨.int .i64 4, .func (.func 89) #[] #[], 3⟩, ⟨.int .i64 8, .func (.func 89) #[] #[], 4⟩, ⟨.int .i64 16, .func (.func 90) #[] #[], 5⟩] 6 2 2 (.func (.func 89) #[] #[]) rfl
          have HC := Lib.hid hck
          have HF := Lib.hid hfit
          clear hck hfit
          go_enter Tryd.func25, Tryd.ntmps25
          go_wp2_with (first | (go_at_call 21; refine (Check_calls _ _ _ _ _ _ _ h0 h1 hs' (hT.alloc _) hl).mono ?_; rw [HC.out]; rintro e w1 ⟨rfl, hb1⟩; have HB1 := below_step (below_new _ _) hb1; obtain ⟨hc1, hf1⟩ := kept_cells hb1; have hz1 := new_lt hb1) | (go_at_call 24; refine (Fits_calls _ _ _ _ _ _ _ _ h0 h1 hs' (hT.below HB1) hl).mono ?_; rw [HF.out]; rintro e w2 ⟨rfl, hb2⟩; have HB2 := below_step HB1 hb2; obtain ⟨hc2, hf2⟩ := kept_cells hb2; have hz2 := Nat.lt_of_lt_of_le hz1 hb2.size) | (go_at_call 23; refine (Of_calls _ _).mono ?_; rintro e w3 ⟨rfl, hb3⟩; have HB3 := below_step HB2 hb3; obtain ⟨hc3, hf3⟩ := kept_cells hb3; have hz3 := Nat.lt_of_lt_of_le hz2 hb3.size) | (go_at_call 89; refine (number_calls _ _ _ _ _ _ _ _ _ _ _ _ h0 h1 (by omega)).mono ?_; rintro e w4 ⟨rfl, hb4⟩))
          go_ret2
          exact ⟨by rw [hw]; rfl, below_step (below_alloc (below_alloc HB3 _) _) hb4⟩
        · rw [putP_num hck hfit hsz (by rw [hw]; decide)]
          have hlk := look_int 106 _ _ Tryd.underlying106 Tryd.underlying3 #[⟨.int .i64 0, .func (.func 88) #[] #[], 0⟩, ⟨.int .i64 1, .func (.func 89) #[] #[], 1⟩, ⟨.int .i64 2, .func (.func 89) #[] #[], 2⟩, ⟨.int .i64 4, .func (.func 89) #[] #[], 3⟩, ⟨.int .i64 8, .func (.func 89) #[] #[], 4⟩, ⟨.int .i64 16, .func (.func 90) #[] #[], 5⟩] 6 4 3 (.func (.func 89) #[] #[]) rfl
          have HC := Lib.hid hck
          have HF := Lib.hid hfit
          clear hck hfit
          go_enter Tryd.func25, Tryd.ntmps25
          go_wp2_with (first | (go_at_call 21; refine (Check_calls _ _ _ _ _ _ _ h0 h1 hs' (hT.alloc _) hl).mono ?_; rw [HC.out]; rintro e w1 ⟨rfl, hb1⟩; have HB1 := below_step (below_new _ _) hb1; obtain ⟨hc1, hf1⟩ := kept_cells hb1; have hz1 := new_lt hb1) | (go_at_call 24; refine (Fits_calls _ _ _ _ _ _ _ _ h0 h1 hs' (hT.below HB1) hl).mono ?_; rw [HF.out]; rintro e w2 ⟨rfl, hb2⟩; have HB2 := below_step HB1 hb2; obtain ⟨hc2, hf2⟩ := kept_cells hb2; have hz2 := Nat.lt_of_lt_of_le hz1 hb2.size) | (go_at_call 23; refine (Of_calls _ _).mono ?_; rintro e w3 ⟨rfl, hb3⟩; have HB3 := below_step HB2 hb3; obtain ⟨hc3, hf3⟩ := kept_cells hb3; have hz3 := Nat.lt_of_lt_of_le hz2 hb3.size) | (go_at_call 89; refine (number_calls _ _ _ _ _ _ _ _ _ _ _ _ h0 h1 (by omega)).mono ?_; rintro e w4 ⟨rfl, hb4⟩))
          go_ret2
          exact ⟨by rw [hw]; rfl, below_step (below_alloc (below_alloc HB3 _) _) hb4⟩
        · rw [putP_num hck hfit hsz (by rw [hw]; decide)]
          have hlk := look_int 106 _ _ Tryd.underlying106 Tryd.underlying3 #[⟨.int .i64 0, .func (.func 88) #[] #[], 0⟩, ⟨.int .i64 1, .func (.func 89) #[] #[], 1⟩, ⟨.int .i64 2, .func (.func 89) #[] #[], 2⟩, ⟨.int .i64 4, .func (.func 89) #[] #[], 3⟩, ⟨.int .i64 8, .func (.func 89) #[] #[], 4⟩, ⟨.int .i64 16, .func (.func 90) #[] #[], 5⟩] 6 8 4 (.func (.func 89) #[] #[]) rfl
          have HC := Lib.hid hck
          have HF := Lib.hid hfit
          clear hck hfit
          go_enter Tryd.func25, Tryd.ntmps25
          go_wp2_with (first | (go_at_call 21; refine (Check_calls _ _ _ _ _ _ _ h0 h1 hs' (hT.alloc _) hl).mono ?_; rw [HC.out]; rintro e w1 ⟨rfl, hb1⟩; have HB1 := below_step (below_new _ _) hb1; obtain ⟨hc1, hf1⟩ := kept_cells hb1; have hz1 := new_lt hb1) | (go_at_call 24; refine (Fits_calls _ _ _ _ _ _ _ _ h0 h1 hs' (hT.below HB1) hl).mono ?_; rw [HF.out]; rintro e w2 ⟨rfl, hb2⟩; have HB2 := below_step HB1 hb2; obtain ⟨hc2, hf2⟩ := kept_cells hb2; have hz2 := Nat.lt_of_lt_of_le hz1 hb2.size) | (go_at_call 23; refine (Of_calls _ _).mono ?_; rintro e w3 ⟨rfl, hb3⟩; have HB3 := below_step HB2 hb3; obtain ⟨hc3, hf3⟩ := kept_cells hb3; have hz3 := Nat.lt_of_lt_of_le hz2 hb3.size) | (go_at_call 89; refine (number_calls _ _ _ _ _ _ _ _ _ _ _ _ h0 h1 (by omega)).mono ?_; rintro e w4 ⟨rfl, hb4⟩))
          go_ret2
          exact ⟨by rw [hw]; rfl, below_step (below_alloc (below_alloc HB3 _) _) hb4⟩
        · rw [putP_bytes hck hfit hsz hw]
          have hlk := look_int 106 _ _ Tryd.underlying106 Tryd.underlying3 #[⟨.int .i64 0, .func (.func 88) #[] #[], 0⟩, ⟨.int .i64 1, .func (.func 89) #[] #[], 1⟩, ⟨.int .i64 2, .func (.func 89) #[] #[], 2⟩, ⟨.int .i64 4, .func (.func 89) #[] #[], 3⟩, ⟨.int .i64 8, .func (.func 89) #[] #[], 4⟩, ⟨.int .i64 16, .func (.func 90) #[] #[], 5⟩] 6 16 5 (.func (.func 90) #[] #[]) rfl
          have HC := Lib.hid hck
          have HF := Lib.hid hfit
          clear hck hfit
          go_enter Tryd.func25, Tryd.ntmps25
          go_wp2_with (first | (go_at_call 21; refine (Check_calls _ _ _ _ _ _ _ h0 h1 hs' (hT.alloc _) hl).mono ?_; rw [HC.out]; rintro e w1 ⟨rfl, hb1⟩; have HB1 := below_step (below_new _ _) hb1; obtain ⟨hc1, hf1⟩ := kept_cells hb1; have hz1 := new_lt hb1) | (go_at_call 24; refine (Fits_calls _ _ _ _ _ _ _ _ h0 h1 hs' (hT.below HB1) hl).mono ?_; rw [HF.out]; rintro e w2 ⟨rfl, hb2⟩; have HB2 := below_step HB1 hb2; obtain ⟨hc2, hf2⟩ := kept_cells hb2; have hz2 := Nat.lt_of_lt_of_le hz1 hb2.size) | (go_at_call 23; refine (Of_calls _ _).mono ?_; rintro e w3 ⟨rfl, hb3⟩; have HB3 := below_step HB2 hb3; obtain ⟨hc3, hf3⟩ := kept_cells hb3; have hz3 := Nat.lt_of_lt_of_le hz2 hb3.size) | (go_at_call 90; refine (bytes_calls _ _ _ _ _ _ _ _ _ _ _ _).mono ?_; rintro e w4 ⟨rfl, hb4⟩))
          go_ret2
          exact ⟨rfl, below_step (below_alloc (below_alloc HB3 _) _) hb4⟩
    · simp only [Bool.not_eq_true] at hfit
      rw [putP_unfit hck hfit]
      have HC := Lib.hid hck
      have HF := Lib.hid hfit
      clear hck hfit
      go_enter Tryd.func25, Tryd.ntmps25
      go_wp2_with (first | (go_at_call 21; refine (Check_calls _ _ _ _ _ _ _ h0 h1 hs' (hT.alloc _) hl).mono ?_; rw [HC.out]; rintro e w1 ⟨rfl, hb1⟩; have HB1 := below_step (below_new _ _) hb1; obtain ⟨hc1, hf1⟩ := kept_cells hb1; have hz1 := new_lt hb1) | (go_at_call 24; refine (Fits_calls _ _ _ _ _ _ _ _ h0 h1 hs' (hT.below HB1) hl).mono ?_; rw [HF.out]; rintro e w2 ⟨rfl, hb2⟩; have HB2 := below_step HB1 hb2; obtain ⟨hc2, hf2⟩ := kept_cells hb2; have hz2 := Nat.lt_of_lt_of_le hz1 hb2.size))
      go_ret2
      exact ⟨rfl, HB2⟩
  · rw [putP_bad hck]
    have hne := hck
    go_enter Tryd.func25, Tryd.ntmps25
    go_wp2_with (go_at_call 21; refine (Check_calls _ _ _ _ _ _ _ h0 h1 hs' (hT.alloc _) hl).mono ?_; rintro e w1 ⟨rfl, hb1⟩)
    go_ret2
    exact ⟨rfl, below_step (below_new _ _) hb1⟩
end Go.Proofs.YtekpofpgkokoiaaDoor.M
