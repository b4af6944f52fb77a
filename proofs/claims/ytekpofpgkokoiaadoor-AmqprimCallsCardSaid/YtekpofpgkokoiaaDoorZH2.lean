/- A part of this claim: what its theorem leans on. -/
import Derived.Test.YtekpofpgkokoiaaDoorZH1
import Derived.Test.YtekpofpgkokoiaaDoorZShelf
import Derived.OneCell
set_option linter.unusedVariables false
set_option linter.unusedSimpArgs false
namespace Go.Proofs.YtekpofpgkokoiaaDoor.M
open Go.RowKit Go.Proofs.YtekpofpgkokoiaaDoorW.PrintWords
set_option maxHeartbeats 1000000 in
theorem bits_calls (k : Int) (w : World) : Calls Tryd.prog 79 #[.int .i64 k] w fun e w' => e = .returned (.tuple #[.int .i64 (bitsN k), .bool (bitsS k)]) ∧ w = w' := by
  go_enter Tryd.func79, Tryd.ntmps79
  go_wp2
  all_goals
    simp only [beq_iff_eq, beq_eq_false_iff_ne, ne_eq] at *
    go_ret2
    refine ⟨ret_ib ?_ ?_, rfl⟩ <;> (first | (subst_vars; rfl) | (simp [bitsN, bitsS, *]; done) | (simp only [bitsS]; apply Eq.symm; apply decide_eq_false; omega) | (simp only [bitsN]; repeat' split) <;> omega)
def okB (b : Int) (s : Bool) : Prop := (s = false ∧ (b = 0 ∨ b = 1 ∨ b = 8 ∨ b = 16 ∨ b = 32 ∨ b = 64)) ∨ (s = true ∧ (b = 8 ∨ b = 16 ∨ b = 32 ∨ b = 64))
theorem okB_bits (k : Int) : okB (bitsN k) (bitsS k) := by
  unfold okB bitsN bitsS
  by_cases h : 7 ≤ k ∧ k ≤ 10 ∨ k = 17
  · right
    simp only [h, decide_true, true_and]
    repeat' split
    all_goals omega
  · left
    simp only [h, decide_false, true_and]
    repeat' split
    all_goals omega
set_option maxHeartbeats 1000000 in
theorem fitsBits_calls (n b : Int) (s : Bool) (w : World) (h0 : 0 ≤ n) (h1 : n < 18446744073709551616) (hb : okB b s) : Calls Tryd.prog 80 #[.int .u64 n, .int .i64 b, .bool s] w fun e w' => e = .returned (.bool (fitsB n b s)) ∧ w = w' := by
  rcases hb with ⟨rfl, hb⟩ | ⟨rfl, hb⟩
  · rcases hb with rfl | rfl | rfl | rfl | rfl | rfl
    all_goals
      go_enter Tryd.func80, Tryd.ntmps80
      go_wp2
      go_ret
      refine ⟨ret_b ?_, rfl⟩
      simp only [fitsB, Bool.false_eq_true, if_false]
      rw [Bool.eq_iff_iff]
      simp
      try omega
  · have hw : wrap64 n = if n < 9223372036854775808 then n else n - 18446744073709551616 := by
      unfold wrap64
      split <;> omega
    have Hw := Lib.hid hw
    clear hw
    rcases hb with rfl | rfl | rfl | rfl
    all_goals
      go_enter Tryd.func80, Tryd.ntmps80
      go_wp2
      all_goals
        rename_i hh
        go_ret
        refine ⟨ret_b ?_, rfl⟩
        rw [Hw.out] at *
        simp only [fitsB, if_true]
        rw [Bool.eq_iff_iff]
        simp
        split at * <;> omega
set_option maxHeartbeats 1000000 in
theorem codePoint_calls (n : Int) (w : World) (h0 : 0 ≤ n) (h1 : n < 18446744073709551616) : Calls Tryd.prog 81 #[.int .u64 n] w fun e w' => e = .returned (.bool (charOk n)) ∧ w = w' := by
  by_cases hn : n ≤ 1114111
  · go_enter Tryd.func81, Tryd.ntmps81
    go_wp2
    all_goals
      go_ret
      refine ⟨ret_b ?_, rfl⟩
      simp [charOk]
      omega
  · go_enter Tryd.func81, Tryd.ntmps81
    go_wp2
    go_ret
    refine ⟨ret_b ?_, rfl⟩
    simp [charOk]
    omega
set_option maxHeartbeats 1000000 in
theorem textual_calls (k : Int) (w : World) : Calls Tryd.prog 82 #[.int .i64 k] w fun e w' => e = .returned (.bool (textual k)) ∧ w = w' := by
  go_enter Tryd.func82, Tryd.ntmps82
  go_wp2
  all_goals
    simp only [beq_iff_eq, beq_eq_false_iff_ne, ne_eq] at *
    go_ret
    refine ⟨ret_b ?_, rfl⟩
    first | (subst_vars; rfl) | (simp only [textual]; apply Eq.symm; apply decide_eq_false; omega)
end Go.Proofs.YtekpofpgkokoiaaDoor.M
set_option linter.unusedVariables false
set_option linter.unusedSimpArgs false
namespace Go.Proofs.YtekpofpgkokoiaaDoor.M
open Go.RowKit Go.Proofs.YtekpofpgkokoiaaDoorW.PrintWords
theorem ValidString_calls (s : ByteArray) (w : World) (hs : s.size ≤ 9223372036854775807) (hT : Tb w) : Calls Tryd.prog 131 #[.string s] w fun e w' => e = .returned (.bool (Lib.validD s.data.toList)) ∧ Below w.heap.size w w' :=
  Any.utf8_ValidString Tryd.validL s w hs hT
theorem get_data (s : ByteArray) (j : Nat) (h : j < s.size) : s.data.toList[j]'h = s[j] := rfl
theorem ascii_of (s : ByteArray) (h : ∀ j, (hj : j < s.size) → (s[j].toNat : Int) < 128) : ascii s = true := by
  unfold ascii
  rw [List.all_eq_true]
  intro c hc
  obtain ⟨j, hj, rfl⟩ := List.mem_iff_getElem.1 hc
  have h1 := h j hj
  rw [← get_data s j hj] at h1
  exact decide_eq_true (by omega)
theorem not_ascii_of (s : ByteArray) (j : Nat) (hj : j < s.size) (h : 128 ≤ (s[j].toNat : Int)) : ascii s = false := by
  unfold ascii
  rw [List.all_eq_false]
  refine ⟨s[j], ?_, ?_⟩
  · rw [← get_data s j hj]
    exact List.getElem_mem _
  · rw [decide_eq_true_iff]
    omega
set_option maxRecDepth 100000 in
set_option maxHeartbeats 1000000 in
theorem text_calls (k n : Int) (s : ByteArray) (A : Option Addr) (c l : Nat) (w : World) (hs : s.size ≤ 9223372036854775807) (hT : Tb w) : Calls Tryd.prog 83 #[.agg #[.int .i64 k, .int .u64 n, .string s, .slice A l c]] w fun e w' => e = .returned (.int .i64 (textE k s)) ∧ Below w.heap.size w w' := by
  by_cases h20 : k = 20
  · subst h20
    go_enter Tryd.func83, Tryd.ntmps83
    go_wp2_with (go_at_call 131; refine (ValidString_calls _ _ hs (hT.alloc _)).mono ?_; rintro e w1 ⟨rfl, hb⟩)
    all_goals
      rename_i hh
      simp only [Bool.not_eq_eq_eq_not, Bool.not_true, Bool.not_false] at hh
      go_ret
      exact ⟨ret_i (by simp [textE, hh]), below_step (below_new _ _) hb⟩
  · by_cases h21 : k = 21
    · subst h21
      go_enter Tryd.func83, Tryd.ntmps83
      go_wp2
      go_loop [17] (fun i => ∃ j : Nat, j ≤ s.size ∧ i = .int .i64 j ∧ ∀ q, (hq : q < s.size) → q < j → (s[q].toNat : Int) < 128) (fun i => s.size - (intOf i).toNat)
      case atStart => exact ⟨0, Nat.zero_le _, rfl, fun q hq h => absurd h (by omega)⟩
      case round =>
        obtain ⟨j, hj, rfl, hall⟩ := hrel
        have Hall := Lib.hid hall
        clear hall
        by_cases hlt : j < s.size
        · go_wp2
          · go_ret
            exact ⟨ret_i (by simp [textE, not_ascii_of s j hlt (by assumption)]), below_new _ _⟩
          · go_round
            case rel =>
              have hx : (s[j].toNat : Int) < 128 := by assumption
              exact ⟨j + 1, by omega, by go_num, fun q hq h => if e : q = j then by subst e; exact hx else Hall.out q hq (by omega)⟩
            case measure => simp [intOf]; omega
        · go_wp2
          go_ret
          exact ⟨ret_i (by simp [textE, ascii_of s (fun q hq => Hall.out q hq (by omega))]), below_new _ _⟩
    · go_enter Tryd.func83, Tryd.ntmps83
      go_wp2
      all_goals
        go_ret
        exact ⟨ret_i (by simp [textE, *]), below_new _ _⟩
theorem check_iff {k n : Int} {s : ByteArray} {l : List Vl} : checkP ⟨k, n, s, l⟩ = if k < 1 ∨ 21 < k then 8
  else if fitsB n (bitsN k) (bitsS k) = false ∨ (k = 16 ∧ charOk n = false) ∨ l.length ≠ 0 then 2
  else if textual k = false then (if s.size = 0 then 0 else 2)
  else if (k = 15 ∨ k = 18) ∧ s.size ≠ 16 then 2
  else if 1048576 < s.size then 4
  else textE k s := rfl
set_option maxRecDepth 100000 in
set_option maxHeartbeats 2000000 in
theorem Check_calls (k n : Int) (s : ByteArray) (items : List Vl) (A : Option Addr) (c : Nat) (w : World) (h0 : 0 ≤ n) (h1 : n < 18446744073709551616) (hs : s.size ≤ 9223372036854775807) (hT : Tb w) (hl : items.length ≤ 9223372036854775807) :
    Calls Tryd.prog 21 #[.agg #[.int .i64 k, .int .u64 n, .string s, .slice A items.length c]] w fun e w' => e = .returned (.int .i64 (checkP ⟨k, n, s, items⟩)) ∧ Below w.heap.size w w' := by
  go_enter Tryd.func21, Tryd.ntmps21
  go_wp2_with (first | (go_at_call 79; refine (bits_calls _ _).mono ?_; rintro e w1 ⟨rfl, rfl⟩) | (go_at_call 80; refine (fitsBits_calls _ _ _ _ h0 h1 (okB_bits _)).mono ?_; rintro e w1 ⟨rfl, rfl⟩) | (go_at_call 81; refine (codePoint_calls _ _ h0 h1).mono ?_; rintro e w1 ⟨rfl, rfl⟩) | (go_at_call 82; refine (textual_calls _ _).mono ?_; rintro e w1 ⟨rfl, rfl⟩) | (go_at_call 83; refine (text_calls _ _ _ _ _ _ _ hs (hT.alloc _)).mono ?_; rintro e w1 ⟨rfl, hb⟩))
  all_goals
    go_ret
    refine ⟨ret_i ?_, by first | exact below_new _ _ | exact below_step (below_new _ _) hb⟩
    rw [check_iff]
    (try simp only [empty_toList] at *) <;> grind
end Go.Proofs.YtekpofpgkokoiaaDoor.M
set_option linter.unusedVariables false
set_option linter.unusedSimpArgs false
namespace Go.Proofs.YtekpofpgkokoiaaDoor.M
open Go.RowKit Go.Proofs.YtekpofpgkokoiaaDoorW.PrintWords Go.Sort Go.Shelf
def encC (x : Int) : List Value := [.int .i64 x, .int .i64 (ofC x).kind, .int .i64 (ofC x).width, .bool (ofC x).sized, .bool (ofC x).items]
def cmpC (x y : Int) : Int := Lib.compareInt x y
theorem ltC (x y : Int) : ltOf cmpC x y = decide (x < y) := by
  unfold ltOf cmpC Lib.compareInt
  by_cases h1 : x < y
  · simp [h1]
  · by_cases h2 : y < x <;> simp [h1, h2]
theorem swoC : SWO (ltOf cmpC) where
  irrefl x := by rw [ltC]; simp
  trans x y z h1 h2 := by rw [ltC] at *; simp at *; omega
  ntrans x y z h1 h2 := by rw [ltC] at *; simp at *; omega
def madeCodes : List Int := [0x00, 0x40, 0x41, 0x42, 0x43, 0x44, 0x45, 0x50, 0x51, 0x52, 0x53, 0x54, 0x55, 0x56, 0x60, 0x61, 0x70, 0x71, 0x72, 0x73, 0x74, 0x80, 0x81, 0x82, 0x83, 0x84, 0x94, 0x98,
  0xa0, 0xb0, 0xa1, 0xb1, 0xa3, 0xb3, 0xc0, 0xd0, 0xc1, 0xd1, 0xe0, 0xf0]
def allCodes : List Int := tableL.map (·.code)
theorem sorted_codes : madeCodes.mergeSort (fun x y => !(ltOf cmpC) y x) = allCodes := by
  have hle : ∀ x y : Int, (!(ltOf cmpC) y x) = true ↔ x ≤ y := fun x y => by rw [ltC]; simp
  refine List.Perm.eq_of_pairwise (le := fun x y => x ≤ y) (fun a b _ _ h1 h2 => by omega) ?_ (by decide) ((List.mergeSort_perm _ _).trans (by decide))
  have h := List.pairwise_mergeSort (le := fun x y => !(ltOf cmpC) y x) (fun a b c h1 h2 => by rw [hle] at *; omega) (fun a b => by rw [Bool.or_eq_true, hle, hle]; omega) madeCodes
  exact h.imp fun h => (hle _ _).1 h
set_option maxHeartbeats 1000000 in
theorem closure_cmp (c1 k1 w1 c2 k2 w2 : Int) (s1 i1 s2 i2 : Bool) (W : World) : Calls Tryd.prog 127 #[.agg #[.int .i64 c1, .int .i64 k1, .int .i64 w1, .bool s1, .bool i1], .agg #[.int .i64 c2, .int .i64 k2, .int .i64 w2, .bool s2, .bool i2]] W fun e w' => e = .returned (.int .i64 (cmpC c1 c2)) ∧ ∃ q os', w' = grow (W.drewN q) os' := by
  have hcon := fun W' => AnyG.cmp_Compare_int Tryd.cmpL c1 c2 W'
  change ∀ W', Calls Tryd.prog 78 _ _ _ at hcon
  unfold cmpC
  generalize Lib.compareInt c1 c2 = r at hcon ⊢
  go_enter Tryd.func127, Tryd.ntmps127
  go_wp2_with (go_at_call 78; refine (hcon _).mono ?_; rintro e w' ⟨rfl, rfl⟩)
  go_ret
  exact ⟨rfl, 0, _, by rw [alloc_eq_grow, alloc_eq_grow, grow_grow]; rfl⟩
theorem cmpLaysC (blk off size : Nat) (w : World) : CmpLays Tryd.prog 127 #[] encC 5 cmpC blk off size w :=
  fun _ _ _ _ x y => closure_cmp x (ofC x).kind (ofC x).width y (ofC y).kind (ofC y).width (ofC x).sized (ofC x).items (ofC y).sized (ofC y).items _
def cellsOf (code kind w : Int) (items : Bool) : List Value := [.int .i64 code, .int .i64 kind, .int .i64 w, .bool true, .bool items]
theorem cellsOf_one (code kind : Int) (items : Bool) : ∀ u ∈ cellsOf code kind 1 items ++ cellsOf (code + 16) kind 4 items, u.oneCell' = true := by
  intro u hu
  simp only [cellsOf, List.cons_append, List.nil_append, List.mem_cons, List.not_mem_nil, or_false] at hu
  rcases hu with rfl | rfl | rfl | rfl | rfl | rfl | rfl | rfl | rfl | rfl <;> rfl
set_option maxRecDepth 100000 in
set_option maxHeartbeats 2000000 in
theorem closure_sized (code kind : Int) (items : Bool) (b : Nat) (v : Value) (n : Nat) (xs : List Value) (base : Nat) (w : World) (hb : base ≤ b) (hk : w.heap[b]? = some (.cells #[v] 90 (0, 0)))
    (hown : w.ownsRow base 34 5 v n xs) (hne : v.ownBlock ≠ some b) (hn : n ≤ 1000) (hc0 : 0 ≤ code) (hc1 : code ≤ 1000) :
    Calls Tryd.prog 125 #[.int .i64 code, .int .i64 kind, .bool items, .pointer (some ⟨b, 0, none⟩)] w fun e w' => e = .returned (.tuple #[]) ∧ ∃ v', w'.heap[b]? = some (.cells #[v'] 90 (0, 0)) ∧
      w'.ownsRow base 34 5 v' (n + 2) (xs ++ (cellsOf code kind 1 items ++ cellsOf (code + 16) kind 4 items)) ∧ v'.ownBlock ≠ some b ∧ Below base w w' := by
  go_enter Tryd.func125, Tryd.ntmps125
  have hcell := blk_cell hk 0
  have hfz := blk_frozen hk 0
  obtain ⟨i0, hi, hzz⟩ := Option.map_eq_some_iff.1 infoC
  simp only [Prod.mk.injEq] at hzz
  obtain ⟨hz0, hz1, hz2⟩ := hzz
  have hlt := blk_lt hk
  have HK := Lib.hid hk
  clear hk
  go_wp2_with (at_builtin; refine wpList_append_own_at _ rfl _ _ 90 rfl base 34 i0 (.agg #[(.int .i64 0), (.int .i64 0), (.int .i64 0), (.bool false), (.bool false)]) 5 32 Tryd.underlying90 hi hz0 hz1 hz2 rfl (by decide) _ _ _ rfl (hown.alloc _) ⟨w.heap.size, 0, none⟩ 2 2 (cellsOf code kind 1 items ++ cellsOf (code + 16) kind 4 items) rfl rfl ?c1 ?c2 ?c3 ?c4 ?c5 ?_; (case c1 => exact World.news_of_block (cs := (cellsOf code kind 1 items ++ cellsOf (code + 16) kind 4 items).toArray) (t := 34) (fr := (0, 0)) (heap_alloc_new w _)); (case c2 => exact cellsOf_one _ _ _); (case c3 => unfold maxLen; omega); (case c4 => omega); (case c5 => simp; omega); intro v' w1 hown' hg _ hat; have hk1 := blk_grown (blk_alloc HK.out _) hg (Ne.symm hne); have hcell1 := blk_cell hk1 0; have hfz1 := blk_frozen hk1 0; have HK1 := Lib.hid hk1; clear hk1; obtain ⟨A1, m1, hv1⟩ := own_slice hown'; rw [hv1]; have HV := Lib.hid hv1; clear hv1)
  go_end0
  rw [← HV.out]
  have hk2 := blk_set HK1.out 0 v'
  have hne' : v'.ownBlock ≠ some b := by
    rcases hat with hat | hat
    · rw [hat]; exact hne
    · rw [hat]
      intro h
      injection h with h
      simp at h
      omega
  refine ⟨rfl, v', hk2, own_move hown' (fun k hk => Below.heap_setCell w1 _ v' k (fun e => hne' (by rw [hk, e]))), hne', ?_⟩
  have hB : Below base w w1 := (Below.grown (((Below.refl base w)).alloc (by omega) _) hg (by simp; omega) (fun j hj => own_base hown j hj))
  exact hB.setCell hb v'
theorem sorted_block {w : World} {g n e : Nat} {cur : Array Value} {os : Array Obj} (d : Array Int) (h : w.heap[g]? = some (.cells cur e (0, 0))) :
    ∃ cur', (sortWorldK encC 5 w g 0 n d os).heap[g]? = some (.cells cur' e (0, 0)) ∧ cur'.size = cur.size := by
  have hlt := blk_lt h
  refine ⟨putCells id 0 (flatK encC 5 d) cur, ?_, by simp [putCells]⟩
  unfold sortWorldK
  rw [heap_grow_old _ _ (by simpa [putRowK] using hlt)]
  simp [putRowK, putRow, mapBlock, Array.getElem?_modify, h, onCells]
theorem sorted_below {w0 w : World} {base g n : Nat} {os : Array Obj} (d : Array Int) (h : Below base w0 w) (hg : base ≤ g) (hb : base ≤ w.heap.size) : Below base w0 (sortWorldK encC 5 w g 0 n d os) := by
  refine ⟨h.os, h.tape, h.output, ?_, fun i hi => ?_⟩
  · have := h.size
    simp [sortWorldK, putRowK]
    omega
  · unfold sortWorldK
    rw [heap_grow_old _ _ (by simp [putRowK]; omega)]
    have hne : ¬ g = i := by omega
    have : (putRowK encC 5 (Go.Sort.ahead w n) g 0 d).heap[i]? = w.heap[i]? := by simp [putRowK, putRow, mapBlock, Array.getElem?_modify, hne]
    rw [this]
    exact h.block i hi
theorem sorted_other {w : World} {g n b : Nat} {os : Array Obj} {o : Obj} (d : Array Int) (h : w.heap[b]? = some o) (hne : b ≠ g) : (sortWorldK encC 5 w g 0 n d os).heap[b]? = some o := by
  unfold sortWorldK
  rw [heap_grow_old _ _ (by simpa [putRowK] using blk_lt h)]
  simp [putRowK, putRow, mapBlock, Array.getElem?_modify, Ne.symm hne, h]
def cellsC (c : Ct) : List Value := [.int .i64 c.code, .int .i64 c.kind, .int .i64 c.width, .bool c.sized, .bool c.items]
def litCells : List Value := (madeCodes.take 28).flatMap encC
def madeCells40 : List Value := litCells ++ (cellsOf 0xa0 19 1 false ++ cellsOf (0xa0 + 16) 19 4 false) ++ (cellsOf 0xa1 20 1 false ++ cellsOf (0xa1 + 16) 20 4 false) ++ (cellsOf 0xa3 21 1 false ++ cellsOf (0xa3 + 16) 21 4 false)
  ++ (cellsOf 0xc0 22 1 true ++ cellsOf (0xc0 + 16) 22 4 true) ++ (cellsOf 0xc1 23 1 true ++ cellsOf (0xc1 + 16) 23 4 true) ++ (cellsOf 0xe0 24 1 true ++ cellsOf (0xe0 + 16) 24 4 true)
theorem made_flat : madeCells40 = (flatK encC 5 madeCodes.toArray).toList := by kernel_rfl
theorem sorted_flat : (flatK encC 5 allCodes.toArray).toList = tableL.flatMap cellsC := by kernel_rfl
theorem encC_len (x : Int) : (encC x).length = 5 := rfl
theorem encC_one (x : Int) : ∀ v ∈ encC x, v.oneCell' = true := by
  intro u hu
  simp only [encC, List.mem_cons, List.not_mem_nil, or_false] at hu
  rcases hu with rfl | rfl | rfl | rfl | rfl <;> rfl
end Go.Proofs.YtekpofpgkokoiaaDoor.M
set_option linter.unusedVariables false
set_option linter.unusedSimpArgs false
namespace Go.Proofs.YtekpofpgkokoiaaDoor.M
open Go.RowKit Go.Proofs.YtekpofpgkokoiaaDoorW.PrintWords Go.Sort Go.Shelf
theorem lit_row (w : World) (cs : Array Value) (h : cs.toList = litCells) : (w.alloc (.cells cs 34)).ownsRow w.heap.size 34 5 (.slice (some ⟨w.heap.size, 0, none⟩) 28 28) 28 litCells := by
  have hs : cs.size = 28 * 5 := by rw [← Array.length_toList, h]; rfl
  have := World.ownsRow_lit (base := w.heap.size) (e := 34) (size := 5) w cs 28 (Nat.le_refl _) (by unfold maxLen; omega) hs
  rwa [h] at this
theorem own_block {w : World} {base g n cap e : Nat} {size : Nat} {xs : List Value} (h : w.ownsRow base e size (.slice (some ⟨g, 0, none⟩) n cap) n xs) : ∃ cur, base ≤ g ∧ w.heap[g]? = some (.cells cur e (0, 0)) ∧ n ≤ cap ∧ cap ≤ maxLen ∧ cur.size = cap * size ∧ cur.toList.take (n * size) = xs := by
  rcases h.2 with ⟨h', _⟩ | ⟨g', cap', cur, h', r⟩
  · cases h'
  · injection h' with h1 h2 h3
    injection h1 with h1
    injection h1 with h1
    subst h1 h3
    exact ⟨cur, r⟩
theorem get_flat (d : Array Int) (j : Nat) (hj : j < (flatK encC 5 d).size) : (flatK encC 5 d).toList[j]? = some (flatK encC 5 d)[j]! := by
  rw [Array.getElem?_toList, Array.getElem?_eq_getElem hj, getElem!_pos (flatK encC 5 d) j hj]
theorem holds_made {w : World} {base g cap : Nat} (h : w.ownsRow base 34 5 (.slice (some ⟨g, 0, none⟩) 40 cap) 40 madeCells40) : HoldsK encC 5 w g 0 madeCodes.toArray := by
  obtain ⟨cur, _, hb, _⟩ := own_block h
  intro j hj
  refine ⟨?_, blk_frozen hb _⟩
  have h1 := h.cells (g := g) rfl j (flatK encC 5 madeCodes.toArray)[j]! (by rw [made_flat]; exact get_flat _ j hj)
  rw [add_plain] at h1
  rw [Nat.zero_add]
  exact h1
theorem reps_cells (R : Ct → List Value → Prop) (h : ∀ p, R p (cellsC p)) (l : List Ct) : Reps R 5 l (l.flatMap cellsC) := by
  have key : ∀ l : List Ct, Reps R 5 l.reverse (l.reverse.flatMap cellsC) := by
    intro l
    induction l with
    | nil => exact Reps.none _ _
    | cons a l ih =>
      rw [List.reverse_cons, List.flatMap_append]
      exact ih.snoc (h a) rfl
  have := key l.reverse
  rwa [List.reverse_reverse] at this
theorem sorted_row {w : World} {base g n cap : Nat} {os : Array Obj} (h : w.ownsRow base 34 5 (.slice (some ⟨g, 0, none⟩) 40 cap) 40 madeCells40) :
    Kd.R kC 34 (sortWorldK encC 5 w g 0 n allCodes.toArray os) base (fun _ => True) (.slice (some ⟨g, 0, none⟩) 40 cap) tableL := by
  obtain ⟨cur, hg, hb, hn, hc, hs, _⟩ := own_block h
  obtain ⟨cur', hb', hs'⟩ := sorted_block (n := n) (os := os) allCodes.toArray hb
  have hH := holdsK_sortWorldK_c encC 5 w g 0 madeCodes.toArray allCodes.toArray n os (holds_made h) (blk_lt hb) (by decide)
  have hF : (flatK encC 5 allCodes.toArray).size = 200 := by rw [size_flatK]; decide
  have hin : cur'.toList.take (40 * 5) = tableL.flatMap cellsC := by
    rw [← sorted_flat]
    apply List.ext_getElem?
    intro j
    rcases Nat.lt_or_ge j 200 with hj | hj
    · have h1 := (hH j (by rw [hF]; exact hj)).1
      rw [Nat.zero_add, blk_cell hb' j] at h1
      rw [List.getElem?_take_of_lt hj, Array.getElem?_toList, h1, get_flat _ j (by rw [hF]; exact hj)]
      rfl
    · rw [List.getElem?_eq_none (by rw [List.length_take]; omega), List.getElem?_eq_none (by rw [Array.length_toList, hF]; omega)]
  refine ⟨fun _ _ => trivial, tableL.flatMap cellsC, ⟨by kernel_rfl, .inr ⟨g, cap, cur', rfl, hg, hb', hn, hc, by rw [hs', hs]; rfl, hin⟩⟩, reps_cells _ (fun p => kC_mkM _ _ _ p) _⟩
set_option maxRecDepth 100000 in
set_option maxHeartbeats 8000000 in
theorem table_calls (w : World) : Calls Tryd.prog 75 #[] w fun e w' => ∃ v, e = .returned v ∧ Kd.R kC 34 w' w.heap.size (fun _ => True) v tableL ∧ Below w.heap.size w w' := by
  go_enter Tryd.func75, Tryd.ntmps75
  go_wp2_with fail
  refine (closure_sized 160 19 false _ (.slice (some ⟨w.heap.size, 0, none⟩) 28 28) 28 litCells w.heap.size _ (by omega) ?h1 ((lit_row w _ (by kernel_rfl)).alloc _) (by simp [Value.ownBlock]) (by omega) (by omega) (by omega)).mono ?_
  case h1 => exact (by simpa using heap_alloc_new (w.alloc _) _)
  rintro e W1 ⟨rfl, v1, hk1, ho1, hn1, hB1⟩
  replace hB1 := (((Below.refl w.heap.size w).alloc (Nat.le_refl _) _).alloc (by simp) _).trans hB1
  have HK1 := Lib.hid hk1
  clear hk1
  go_wp2_with fail
  refine (closure_sized 161 20 false _ v1 30 _ w.heap.size _ (by omega) HK1.out ho1 hn1 (by omega) (by omega) (by omega)).mono ?_
  rintro e W2 ⟨rfl, v2, hk2, ho2, hn2, hB2⟩
  replace hB2 := hB1.trans hB2
  clear ho1 hn1 HK1 hB1
  have HK2 := Lib.hid hk2
  clear hk2
  go_wp2_with fail
  refine (closure_sized 163 21 false _ v2 32 _ w.heap.size _ (by omega) HK2.out ho2 hn2 (by omega) (by omega) (by omega)).mono ?_
  rintro e W3 ⟨rfl, v3, hk3, ho3, hn3, hB3⟩
  replace hB3 := hB2.trans hB3
  clear ho2 hn2 HK2 hB2
  have HK3 := Lib.hid hk3
  clear hk3
  go_wp2_with fail
  refine (closure_sized 192 22 true _ v3 34 _ w.heap.size _ (by omega) HK3.out ho3 hn3 (by omega) (by omega) (by omega)).mono ?_
  rintro e W4 ⟨rfl, v4, hk4, ho4, hn4, hB4⟩
  replace hB4 := hB3.trans hB4
  clear ho3 hn3 HK3 hB3
  have HK4 := Lib.hid hk4
  clear hk4
  go_wp2_with fail
  refine (closure_sized 193 23 true _ v4 36 _ w.heap.size _ (by omega) HK4.out ho4 hn4 (by omega) (by omega) (by omega)).mono ?_
  rintro e W5 ⟨rfl, v5, hk5, ho5, hn5, hB5⟩
  replace hB5 := hB4.trans hB5
  clear ho4 hn4 HK4 hB4
  have HK5 := Lib.hid hk5
  clear hk5
  go_wp2_with fail
  refine (closure_sized 224 24 true _ v5 38 _ w.heap.size _ (by omega) HK5.out ho5 hn5 (by omega) (by omega) (by omega)).mono ?_
  rintro e W6 ⟨rfl, v6, hk6, ho6, hn6, hB6⟩
  replace hB6 := hB5.trans hB6
  clear ho5 hn5 HK5 hB5
  have hcell := blk_cell hk6 0
  have HK6 := Lib.hid hk6
  clear hk6
  obtain ⟨g, cap, hv6, hg, hglt⟩ := ho6.form (by omega)
  have HV := Lib.hid hv6
  clear hv6
  rw [HV.out] at hcell hn6 ho6
  have hHo := holds_made ho6
  have eg : ∀ args w, (callFunc 127 args).run Tryd.prog w = .ok (.enter 127 args) w := enters_of Tryd.func127 (by kernel_rfl) rfl
  have hcon := AnyQ.slices_SortFunc_total Tryd.sortL 5 Tryd.isAgg34 Tryd.sizeOf34 encC encC_len encC_one cmpC swoC 127 #[] g 0 cap madeCodes.toArray W6 eg (cmpLaysC g 0 _ _) hHo hglt (by decide) (fun x y h1 h2 => by rw [ltC] at h1 h2; simp at h1 h2; omega)
  change Calls Tryd.prog 126 _ _ _ at hcon
  rw [show madeCodes.toArray.toList = madeCodes from rfl, sorted_codes] at hcon
  have HO := Lib.hid ho6
  clear ho6 hHo
  go_wp2_with (go_at_call 126; refine hcon.mono ?_; rintro e w' ⟨rfl, n, os, rfl⟩; have hbk := sorted_other (n := n) (os := os) allCodes.toArray HK6.out (show w.heap.size + 1 ≠ g from fun h => hn6 (by rw [h]; rfl)); have hcell2 := blk_cell hbk 0; clear hbk)
  go_ret
  refine ⟨v6, rfl, ?_, sorted_below _ hB6 hg hB6.size⟩
  rw [HV.out]
  exact sorted_row HO.out
end Go.Proofs.YtekpofpgkokoiaaDoor.M
