/- A part of this claim: what its theorem leans on. -/
import Derived.Test.YtekpofpgkokoiaaDoorZVd
import Derived.Test.YtekpofpgkokoiaaDoorZVz
set_option linter.unusedVariables false
set_option linter.unusedSimpArgs false
namespace Go.Proofs.YtekpofpgkokoiaaDoor.M
open Go.RowKit Go.Proofs.YtekpofpgkokoiaaDoorW.PrintWords
theorem tab_sized : ∀ c ∈ tableL, c.items = true → c.kind ≠ 25 → c.sized = true → (c.width = 1 ∨ c.width = 4) ∧ (c.kind = 22 ∨ c.kind = 23 ∨ c.kind = 24) := by decide
theorem data_all : ∀ (m : Nat), m ≤ 32 → ∀ (code : Int) (s : ByteArray), s.size ≤ 140737488351232 → ∀ w, Tb w → Calls Tryd.prog 52 #[.int .i64 code, .string s, .int .i64 m] w fun e w' => RdPost w (dataE m code s.data.toList) e w' := by
  intro m
  induction m with
  | zero =>
    intro hm code s hs w hT
    exact vdata_calls 0 hm code s hs (fun m' h => absurd h (by omega)) (fun m' h => absurd h (by omega)) w hT
  | succ m ih =>
    intro hm code s hs w hT
    have hD : ∀ (c : Int) (t : ByteArray), t.size ≤ 140737488351232 → ∀ W, Tb W → Calls Tryd.prog 52 #[.int .i64 c, .string t, .int .i64 m] W fun e w' => RdPost W (dataE m c t.data.toList) e w' := fun c t ht W hW => ih (by omega) c t ht W hW
    have hv := value_calls m (by omega) (fun t ht W hW => vread_calls m (by omega) t ht hD W hW) hD
    refine vdata_calls (m + 1) hm code s hs (fun m' h W hW => ?_) (fun m' h c hc hi hk hsz W hW => ?_) w hT
    · obtain rfl : m = m' := by omega
      exact described_calls m hm (fun code t p g hp ht w0 w hT hI hB => hv code t p g hp ht w0 w hT hI hB) s hs W hW
    · obtain rfl : m = m' := by omega
      obtain ⟨h1, h2⟩ := tab_sized c (List.mem_of_find?_eq_some hc) hi hk hsz
      obtain ⟨a1, a2, a3, a4, a5⟩ := c
      dsimp only at h1 h2 ⊢
      obtain ⟨q, hq⟩ := Int.eq_ofNat_of_zero_le (show 0 ≤ a3 by omega)
      subst hq
      exact vsized_calls m hm (fun code t p g hp ht w0 w hT hI hB => hv code t p g hp ht w0 w hT hI hB) a1 a2 q a4 a5 (by omega) h2 s hs W hW
theorem read_all (m : Nat) (hm : m ≤ 32) (s : ByteArray) (hs : s.size ≤ 140737488351232) (w : World) (hT : Tb w) : Calls Tryd.prog 30 #[.string s, .int .i64 m] w fun e w' => RdPost w (rdE m s.data.toList) e w' :=
  vread_calls m hm s hs (data_all m hm) w hT
set_option maxRecDepth 100000 in
set_option maxHeartbeats 4000000 in
theorem read_far (most : Int) (h : ¬ (0 ≤ most ∧ most ≤ 32)) (s : ByteArray) (w : World) : Calls Tryd.prog 30 #[.string s, .int .i64 most] w fun e w' => RdPost w (.error 2) e w' := by
  have hm := P.mostRight_some most
  rw [decide_eq_false h] at hm
  have HM := Lib.hid hm
  clear hm h
  go_enter Tryd.func30, Tryd.ntmps30
  go_wp2_with fail
  refine (Q.amqvalue_mostRight.calls _ false _ HM.out).mono ?_
  rintro e w1 ⟨rfl, ⟨n1, rfl⟩⟩
  have BK := Lib.hid (blk_drewN (blk_new w (Obj.cells #[Value.int IntKind.i64 0, Value.int IntKind.u64 0, Value.string ⟨#[]⟩, Value.slice none 0 0] 25)) n1)
  have HBB := Lib.hid (pw_below_drewN (below_new w (Obj.cells #[Value.int IntKind.i64 0, Value.int IntKind.u64 0, Value.string ⟨#[]⟩, Value.slice none 0 0] 25)) n1)
  go_wp2_with fail
  refine bodyPost_ret (results_ctt rfl _ _ w.heap.size 25 _ (0, 0) _ rfl (put4 BK.out _ _ _ _) Tryd.underlying25 rfl (by kernel_rfl)) rfl ?_
  exact rdPost_fail rfl (below_put4 HBB.out (Nat.le_refl _) _ _ _ _)
theorem amqvalue_Read.calls (a0 : ByteArray) (a1 : Int) (r1 r2 : Int) (r3 : ByteArray) (r4 : List Vl) (r5 r6 : Int) (w : World) (hT : Tb w) (h : amqvalue_Read.f a0 a1 = some (r1, r2, r3, r4, r5, r6)) :
    Calls Tryd.prog 30 #[.string a0, .int .i64 a1] w fun e w' => ∃ v3_ : Value, e = .returned (.tuple #[.agg #[.int .i64 r1, .int .u64 r2, .string r3, v3_], .int .i64 r5, .int .i64 r6]) ∧ Kd.R kV 25 w' w.heap.size (fun _ => True) v3_ r4 ∧ Below w.heap.size w w' := by
  unfold amqvalue_Read.f at h
  split at h
  · rename_i hs
    injection h with h
    have key : Calls Tryd.prog 30 #[.string a0, .int .i64 a1] w fun e w' => RdPost w (rdM a1 a0.data.toList) e w' := by
      unfold rdM
      split
      · rename_i hm
        obtain ⟨m, rfl⟩ := Int.eq_ofNat_of_zero_le hm.1
        exact read_all m (by omega) a0 hs w hT
      · exact read_far a1 (by assumption) a0 w
    refine key.mono ?_
    rintro e w' ⟨q1, q2, q3, q4, q5, q6, hq, A, c, rfl, hR, hB⟩
    rw [hq] at h
    simp only [Prod.mk.injEq] at h
    obtain ⟨rfl, rfl, rfl, rfl, rfl, rfl⟩ := h
    exact ⟨_, rfl, hR, hB⟩
  · cases h
theorem amqvalue_Check.calls (a0_0 a0_1 : Int) (a0_2 : ByteArray) (A0_3 : Option Addr) (c0_3 : Nat) (l0_3 : List Vl) (a1 : Int) (r : Int) (w : World) (hT : Tb w) (hr0_3 : Kd.C kV w A0_3 l0_3.length l0_3) (hc0_3 : l0_3.length ≤ c0_3) (h : amqvalue_Check.f a0_0 a0_1 a0_2 l0_3 a1 = some r) :
    Calls Tryd.prog 49 #[.agg #[.int .i64 a0_0, .int .u64 a0_1, .string a0_2, .slice A0_3 l0_3.length c0_3], .int .i64 a1] w fun e w' => e = .returned (.int .i64 r) ∧ Below w.heap.size w w' := by
  unfold amqvalue_Check.f at h
  split at h
  · rename_i ho
    injection h with h
    subst h
    exact vcheck_calls ⟨a0_0, a0_1, a0_2, l0_3⟩ ((okVb_iff _).1 ho) a1 w A0_3 c0_3 hT hr0_3 hc0_3
  · cases h
end Go.Proofs.YtekpofpgkokoiaaDoor.M
