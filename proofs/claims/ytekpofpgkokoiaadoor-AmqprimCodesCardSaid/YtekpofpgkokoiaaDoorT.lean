/- The walk of amqprim.table: its 40 constructors, sorted by the library's sort (by its contract). -/
import Derived.Test.YtekpofpgkokoiaaDoorA2
import Derived.Test.YtekpofpgkokoiaaDoorShelf
import Derived.OneCell
set_option linter.unusedVariables false
set_option linter.unusedSimpArgs false
namespace Go.Proofs.YtekpofpgkokoiaaDoor.M
open Go.RowKit Go.Proofs.YtekpofpgkokoiaaDoorW.PrintWords Go.Sort Go.Shelf

/-- A constructor's cells, by its code. -/
def encC (x : Int) : List Value := [.int .i64 x, .int .i64 (ofC x).kind, .int .i64 (ofC x).width, .bool (ofC x).sized, .bool (ofC x).items]
def cmpC (x y : Int) : Int := Lib.compareInt x y
theorem ltC (x y : Int) : ltOf cmpC x y = decide (x < y) := by
  unfold ltOf cmpC Lib.compareInt
  by_cases h1 : x < y
  · simp [h1]
  · by_cases h2 : y < x <;> simp [h1, h2]
theorem swoC : SWO (ltOf cmpC) where
  irrefl x := by rw [ltC]; simp
  trans x y z h1 h2 := by rw [ltC] at *; simp at *; omega
  ntrans x y z h1 h2 := by rw [ltC] at *; simp at *; omega
def madeCodes : List Int := [0x00, 0x40, 0x41, 0x42, 0x43, 0x44, 0x45, 0x50, 0x51, 0x52, 0x53, 0x54, 0x55, 0x56, 0x60, 0x61, 0x70, 0x71, 0x72, 0x73, 0x74, 0x80, 0x81, 0x82, 0x83, 0x84, 0x94, 0x98,
  0xa0, 0xb0, 0xa1, 0xb1, 0xa3, 0xb3, 0xc0, 0xd0, 0xc1, 0xd1, 0xe0, 0xf0]
def allCodes : List Int := tableL.map (·.code)
theorem sorted_codes : madeCodes.mergeSort (fun x y => !(ltOf cmpC) y x) = allCodes := by
  have hle : ∀ x y : Int, (!(ltOf cmpC) y x) = true ↔ x ≤ y := fun x y => by rw [ltC]; simp
  refine List.Perm.eq_of_pairwise (le := fun x y => x ≤ y) (fun a b _ _ h1 h2 => by omega) ?_ (by decide) ((List.mergeSort_perm _ _).trans (by decide))
  have h := List.pairwise_mergeSort (le := fun x y => !(ltOf cmpC) y x) (fun a b c h1 h2 => by rw [hle] at *; omega) (fun a b => by rw [Bool.or_eq_true, hle, hle]; omega) madeCodes
  exact h.imp fun h => (hle _ _).1 h

set_option maxHeartbeats 1000000 in
/-- The closure by which the table is sorted. -/
theorem closure_cmp (c1 k1 w1 c2 k2 w2 : Int) (s1 i1 s2 i2 : Bool) (W : World) : Calls Tryd.prog 127 #[.agg #[.int .i64 c1, .int .i64 k1, .int .i64 w1, .bool s1, .bool i1], .agg #[.int .i64 c2, .int .i64 k2, .int .i64 w2, .bool s2, .bool i2]] W fun e w' => e = .returned (.int .i64 (cmpC c1 c2)) ∧ ∃ q os', w' = grow (W.drewN q) os' := by
  have hcon := fun W' => AnyG.cmp_Compare_int Tryd.cmpL c1 c2 W'
  change ∀ W', Calls Tryd.prog 78 _ _ _ at hcon
  unfold cmpC
  generalize Lib.compareInt c1 c2 = r at hcon ⊢
  go_enter Tryd.func127, Tryd.ntmps127
  go_wp2_with (go_at_call 78; refine (hcon _).mono ?_; rintro e w' ⟨rfl, rfl⟩)
  go_ret
  exact ⟨rfl, 0, _, by rw [alloc_eq_grow, alloc_eq_grow, grow_grow]; rfl⟩
theorem cmpLaysC (blk off size : Nat) (w : World) : CmpLays Tryd.prog 127 #[] encC 5 cmpC blk off size w :=
  fun _ _ _ _ x y => closure_cmp x (ofC x).kind (ofC x).width y (ofC y).kind (ofC y).width (ofC x).sized (ofC x).items (ofC y).sized (ofC y).items _

/-- One of the two constructors with a size. -/
def cellsOf (code kind w : Int) (items : Bool) : List Value := [.int .i64 code, .int .i64 kind, .int .i64 w, .bool true, .bool items]
theorem cellsOf_one (code kind : Int) (items : Bool) : ∀ u ∈ cellsOf code kind 1 items ++ cellsOf (code + 16) kind 4 items, u.oneCell' = true := by
  intro u hu
  simp only [cellsOf, List.cons_append, List.nil_append, List.mem_cons, List.not_mem_nil, or_false] at hu
  rcases hu with rfl | rfl | rfl | rfl | rfl | rfl | rfl | rfl | rfl | rfl <;> rfl
set_option maxRecDepth 100000 in
set_option maxHeartbeats 2000000 in
theorem closure_sized (code kind : Int) (items : Bool) (b : Nat) (v : Value) (n : Nat) (xs : List Value) (base : Nat) (w : World) (hb : base ≤ b) (hk : w.heap[b]? = some (.cells #[v] 90 (0, 0)))
    (hown : w.ownsRow base 34 5 v n xs) (hne : v.ownBlock ≠ some b) (hn : n ≤ 1000) (hc0 : 0 ≤ code) (hc1 : code ≤ 1000) :
    Calls Tryd.prog 125 #[.int .i64 code, .int .i64 kind, .bool items, .pointer (some ⟨b, 0, none⟩)] w fun e w' => e = .returned (.tuple #[]) ∧ ∃ v', w'.heap[b]? = some (.cells #[v'] 90 (0, 0)) ∧
      w'.ownsRow base 34 5 v' (n + 2) (xs ++ (cellsOf code kind 1 items ++ cellsOf (code + 16) kind 4 items)) ∧ v'.ownBlock ≠ some b ∧ Below base w w' := by
  go_enter Tryd.func125, Tryd.ntmps125
  have hcell := blk_cell hk 0
  have hfz := blk_frozen hk 0
  obtain ⟨i0, hi, hzz⟩ := Option.map_eq_some_iff.1 infoC
  simp only [Prod.mk.injEq] at hzz
  obtain ⟨hz0, hz1, hz2⟩ := hzz
  have hlt := blk_lt hk
  have HK := Lib.hid hk
  clear hk
  go_wp2_with (at_builtin; refine wpList_append_own_at _ rfl _ _ 90 rfl base 34 i0 (.agg #[(.int .i64 0), (.int .i64 0), (.int .i64 0), (.bool false), (.bool false)]) 5 32 Tryd.underlying90 hi hz0 hz1 hz2 rfl (by decide) _ _ _ rfl (hown.alloc _) ⟨w.heap.size, 0, none⟩ 2 2 (cellsOf code kind 1 items ++ cellsOf (code + 16) kind 4 items) rfl rfl ?c1 ?c2 ?c3 ?c4 ?c5 ?_; (case c1 => exact World.news_of_block (cs := (cellsOf code kind 1 items ++ cellsOf (code + 16) kind 4 items).toArray) (t := 34) (fr := (0, 0)) (heap_alloc_new w _)); (case c2 => exact cellsOf_one _ _ _); (case c3 => unfold maxLen; omega); (case c4 => omega); (case c5 => simp; omega); intro v' w1 hown' hg _ hat; have hk1 := blk_grown (blk_alloc HK.out _) hg (Ne.symm hne); have hcell1 := blk_cell hk1 0; have hfz1 := blk_frozen hk1 0; have HK1 := Lib.hid hk1; clear hk1; obtain ⟨A1, m1, hv1⟩ := own_slice hown'; rw [hv1]; have HV := Lib.hid hv1; clear hv1)
  go_end0
  rw [← HV.out]
  have hk2 := blk_set HK1.out 0 v'
  have hne' : v'.ownBlock ≠ some b := by
    rcases hat with hat | hat
    · rw [hat]; exact hne
    · rw [hat]
      intro h
      injection h with h
      simp at h
      omega
  refine ⟨rfl, v', hk2, own_move hown' (fun k hk => Below.heap_setCell w1 _ v' k (fun e => hne' (by rw [hk, e]))), hne', ?_⟩
  have hB : Below base w w1 := (Below.grown (((Below.refl base w)).alloc (by omega) _) hg (by simp; omega) (fun j hj => own_base hown j hj))
  exact hB.setCell hb v'

/-- Behind the sort the row's block holds the sorted cells, all else is as it was. -/
theorem sorted_block {w : World} {g n e : Nat} {cur : Array Value} {os : Array Obj} (d : Array Int) (h : w.heap[g]? = some (.cells cur e (0, 0))) :
    ∃ cur', (sortWorldK encC 5 w g 0 n d os).heap[g]? = some (.cells cur' e (0, 0)) ∧ cur'.size = cur.size := by
  have hlt := blk_lt h
  refine ⟨putCells id 0 (flatK encC 5 d) cur, ?_, by simp [putCells]⟩
  unfold sortWorldK
  rw [heap_grow_old _ _ (by simpa [putRowK] using hlt)]
  simp [putRowK, putRow, mapBlock, Array.getElem?_modify, h, onCells]
theorem sorted_below {w0 w : World} {base g n : Nat} {os : Array Obj} (d : Array Int) (h : Below base w0 w) (hg : base ≤ g) (hb : base ≤ w.heap.size) : Below base w0 (sortWorldK encC 5 w g 0 n d os) := by
  refine ⟨h.os, h.tape, h.output, ?_, fun i hi => ?_⟩
  · have := h.size
    simp [sortWorldK, putRowK]
    omega
  · unfold sortWorldK
    rw [heap_grow_old _ _ (by simp [putRowK]; omega)]
    have hne : ¬ g = i := by omega
    have : (putRowK encC 5 (Go.Sort.ahead w n) g 0 d).heap[i]? = w.heap[i]? := by simp [putRowK, putRow, mapBlock, Array.getElem?_modify, hne]
    rw [this]
    exact h.block i hi
theorem sorted_other {w : World} {g n b : Nat} {os : Array Obj} {o : Obj} (d : Array Int) (h : w.heap[b]? = some o) (hne : b ≠ g) : (sortWorldK encC 5 w g 0 n d os).heap[b]? = some o := by
  unfold sortWorldK
  rw [heap_grow_old _ _ (by simpa [putRowK] using blk_lt h)]
  simp [putRowK, putRow, mapBlock, Array.getElem?_modify, Ne.symm hne, h]

def cellsC (c : Ct) : List Value := [.int .i64 c.code, .int .i64 c.kind, .int .i64 c.width, .bool c.sized, .bool c.items]
/-- The literal's cells. -/
def litCells : List Value := (madeCodes.take 28).flatMap encC
def madeCells40 : List Value := litCells ++ (cellsOf 0xa0 19 1 false ++ cellsOf (0xa0 + 16) 19 4 false) ++ (cellsOf 0xa1 20 1 false ++ cellsOf (0xa1 + 16) 20 4 false) ++ (cellsOf 0xa3 21 1 false ++ cellsOf (0xa3 + 16) 21 4 false)
  ++ (cellsOf 0xc0 22 1 true ++ cellsOf (0xc0 + 16) 22 4 true) ++ (cellsOf 0xc1 23 1 true ++ cellsOf (0xc1 + 16) 23 4 true) ++ (cellsOf 0xe0 24 1 true ++ cellsOf (0xe0 + 16) 24 4 true)
theorem made_flat : madeCells40 = (flatK encC 5 madeCodes.toArray).toList := by kernel_rfl
theorem sorted_flat : (flatK encC 5 allCodes.toArray).toList = tableL.flatMap cellsC := by kernel_rfl
theorem encC_len (x : Int) : (encC x).length = 5 := rfl
theorem encC_one (x : Int) : ∀ v ∈ encC x, v.oneCell' = true := by
  intro u hu
  simp only [encC, List.mem_cons, List.not_mem_nil, or_false] at hu
  rcases hu with rfl | rfl | rfl | rfl | rfl <;> rfl
end Go.Proofs.YtekpofpgkokoiaaDoor.M
