/- Walks of octet.Put, for 1, 2, 4 and 8 bytes. -/
import Derived.Test.YtekpofpgkokoiaaDoorB
set_option linter.unusedVariables false
set_option linter.unusedSimpArgs false
namespace Go.Proofs.YtekpofpgkokoiaaDoor.M
open Go.RowKit Go.Proofs.YtekpofpgkokoiaaDoorW.PrintWords

theorem conv_new (W : World) (xs : List Int) (n : Nat) (hn : xs.length = n) (C : Array Value) (hC : C = (nums .u8 xs).toArray) :
    (convert 73 9 (.slice (some ⟨W.heap.size, 0, none⟩) n n)).run Tryd.prog (W.alloc (.cells C 5)) = .ok (.string (strOfNums xs)) (W.alloc (.cells C 5)) := by
  subst hC
  refine run_convert_bytes_arg (P := Tryd.prog) _ 73 5 Tryd.underlying73 Tryd.underlying5 W.heap.size 0 n n xs hn (fun i hi => ?_) 9 Tryd.underlying9
  rw [blk_cell (heap_alloc_new W _) (0 + i), Nat.zero_add]
  simp [nums, List.getElem?_eq_getElem (show i < xs.length by omega), List.getD_eq_getElem?_getD]

theorem be_byte (n : Int) (h0 : 0 ≤ n) (m : Nat) : UInt8.ofNat ((n / (m : Int)) % 256).toNat = UInt8.ofNat (n.toNat / m % 256) := by
  obtain ⟨k, rfl⟩ := Int.eq_ofNat_of_zero_le h0
  congr 1

set_option maxRecDepth 100000 in
set_option maxHeartbeats 2000000 in
theorem oput_calls (n sz : Int) (w : World) (h0 : 0 ≤ n) (h1 : n < 18446744073709551616) (hsz : sz = 0 ∨ sz = 1 ∨ sz = 2 ∨ sz = 4 ∨ sz = 8) : Calls Tryd.prog 132 #[.int .u64 n, .int .i64 sz] w fun e w' => e = .returned (.string (beB n sz)) ∧ Below w.heap.size w w' := by
  rcases hsz with rfl | rfl | rfl | rfl | rfl
  · go_enter Tryd.func132, Tryd.ntmps132
    go_wp2
    go_ret
    exact ⟨rfl, Below.refl _ _⟩
  · have hmk : ∀ w, (Instr.makeSlice 73 (.int .i64 1) (.int .i64 1)).run Tryd.prog w = .ok (.slice (some ⟨w.heap.size, 0, none⟩) 1 1) (w.alloc (.cells #[.int .u8 0] 5)) := fun _ => by kernel_rfl
    have hcv : ∀ (W : World) (a : Int), _ := fun W a => conv_new W [a] 1 rfl #[.int .u8 a] rfl
    have hmin : min (1 : Int) 16 = 1 := by decide
    go_enter Tryd.func132, Tryd.ntmps132
    go_wp2
    refine wp_loop_rounds 2 ?_
    iterate 2 (rw [rounds_succ]; go_wp2)
    go_ret
    refine ⟨ret_s ?_, below_new _ _⟩
    have b0 := be_byte n h0 1
    simp [strOfNums, beB, beL] at b0 ⊢
    exact b0
  · have hmk : ∀ w, (Instr.makeSlice 73 (.int .i64 2) (.int .i64 2)).run Tryd.prog w = .ok (.slice (some ⟨w.heap.size, 0, none⟩) 2 2) (w.alloc (.cells #[.int .u8 0, .int .u8 0] 5)) := fun _ => by kernel_rfl
    have hcv : ∀ (W : World) (a b : Int), _ := fun W a b => conv_new W [a, b] 2 rfl #[.int .u8 a, .int .u8 b] rfl
    have hmin : min (2 : Int) 16 = 2 := by decide
    go_enter Tryd.func132, Tryd.ntmps132
    go_wp2
    refine wp_loop_rounds 3 ?_
    iterate 3 (rw [rounds_succ]; go_wp2)
    go_ret
    refine ⟨ret_s ?_, below_new _ _⟩
    have b0 := be_byte n h0 1
    have b1 := be_byte n h0 256
    simp [strOfNums, beB, beL, Nat.div_div_eq_div_mul] at b0 b1 ⊢
    exact ⟨b1, b0⟩
  · have hmk : ∀ w, (Instr.makeSlice 73 (.int .i64 4) (.int .i64 4)).run Tryd.prog w = .ok (.slice (some ⟨w.heap.size, 0, none⟩) 4 4) (w.alloc (.cells #[.int .u8 0, .int .u8 0, .int .u8 0, .int .u8 0] 5)) := fun _ => by kernel_rfl
    have hcv : ∀ (W : World) (a b c d : Int), _ := fun W a b c d => conv_new W [a, b, c, d] 4 rfl #[.int .u8 a, .int .u8 b, .int .u8 c, .int .u8 d] rfl
    have hmin : min (4 : Int) 16 = 4 := by decide
    go_enter Tryd.func132, Tryd.ntmps132
    go_wp2
    refine wp_loop_rounds 5 ?_
    iterate 5 (rw [rounds_succ]; go_wp2)
    go_ret
    refine ⟨ret_s ?_, below_new _ _⟩
    have b0 := be_byte n h0 1
    have b1 := be_byte n h0 256
    have b2 := be_byte n h0 65536
    have b3 := be_byte n h0 16777216
    simp [strOfNums, beB, beL, Nat.div_div_eq_div_mul] at b0 b1 b2 b3 ⊢
    exact ⟨b3, b2, b1, b0⟩
  · have hmk : ∀ w, (Instr.makeSlice 73 (.int .i64 8) (.int .i64 8)).run Tryd.prog w = .ok (.slice (some ⟨w.heap.size, 0, none⟩) 8 8) (w.alloc (.cells #[.int .u8 0, .int .u8 0, .int .u8 0, .int .u8 0, .int .u8 0, .int .u8 0, .int .u8 0, .int .u8 0] 5)) := fun _ => by kernel_rfl
    have hcv : ∀ (W : World) (a b c d e f g h : Int), _ := fun W a b c d e f g h => conv_new W [a, b, c, d, e, f, g, h] 8 rfl #[.int .u8 a, .int .u8 b, .int .u8 c, .int .u8 d, .int .u8 e, .int .u8 f, .int .u8 g, .int .u8 h] rfl
    have hmin : min (8 : Int) 16 = 8 := by decide
    go_enter Tryd.func132, Tryd.ntmps132
    go_wp2
    refine wp_loop_rounds 9 ?_
    iterate 9 (rw [rounds_succ]; go_wp2)
    go_ret
    refine ⟨ret_s ?_, below_new _ _⟩
    have b0 := be_byte n h0 1
    have b1 := be_byte n h0 256
    have b2 := be_byte n h0 65536
    have b3 := be_byte n h0 16777216
    have b4 := be_byte n h0 4294967296
    have b5 := be_byte n h0 1099511627776
    have b6 := be_byte n h0 281474976710656
    have b7 := be_byte n h0 72057594037927936
    rw [show n / ((72057594037927936 : Nat) : Int) % 256 = n / 72057594037927936 by omega] at b7
    simp [strOfNums, beB, beL, Nat.div_div_eq_div_mul] at b0 b1 b2 b3 b4 b5 b6 b7 ⊢
    exact ⟨b7, b6, b5, b4, b3, b2, b1, b0⟩
end Go.Proofs.YtekpofpgkokoiaaDoor.M
