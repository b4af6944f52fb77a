/- The examples at the head of each statement of chapter 16: 'lives' answers true. -/
import Derived.Test.YtekpofpgkokoiaaDoorE
set_option linter.unusedVariables false
set_option linter.unusedSimpArgs false
namespace Go.Proofs.YtekpofpgkokoiaaDoor.M
open Go.RowKit Go.Proofs.YtekpofpgkokoiaaDoorW.PrintWords

theorem least0 : leastP ⟨5, 0, ⟨#[]⟩, []⟩ = (0x43, 0) := by kernel_rfl
theorem least200 : leastP ⟨5, 200, ⟨#[]⟩, []⟩ = (0x52, 0) := by kernel_rfl
theorem put300 : putP 0x70 ⟨5, 300, ⟨#[]⟩, []⟩ = (⟨#[0, 0, 1, 44]⟩, 0) := by kernel_rfl
theorem least_at (n : Int) (r : Int × Int) (hr : leastP ⟨5, n, ⟨#[]⟩, []⟩ = r) (w : World) (h0 : 0 ≤ n) (h1 : n < 18446744073709551616) (hT : Tb w) : Calls Tryd.prog 41 #[.agg #[.int .i64 5, .int .u64 n, .string ⟨#[]⟩, .slice none 0 0]] w fun e w' => e = .returned (.tuple #[.int .i64 r.1, .int .i64 r.2]) ∧ Below w.heap.size w w' := by
  subst hr
  exact Least_calls 5 n ⟨#[]⟩ [] none 0 w h0 h1 (by decide) hT (by decide)
theorem put_at (w : World) (hT : Tb w) : Calls Tryd.prog 25 #[.int .i64 112, .agg #[.int .i64 5, .int .u64 300, .string ⟨#[]⟩, .slice none 0 0]] w fun e w' => e = .returned (.tuple #[.string ⟨#[0, 0, 1, 44]⟩, .int .i64 0]) ∧ Below w.heap.size w w' := by
  have h := Put_calls 112 5 300 ⟨#[]⟩ [] none 0 w (by decide) (by decide) (by decide) hT (by decide)
  rw [show putP 112 ⟨5, 300, ⟨#[]⟩, []⟩ = (⟨#[0, 0, 1, 44]⟩, 0) from put300] at h
  exact h

set_option maxHeartbeats 1000000 in
theorem N_calls (k n : Int) (w : World) : Calls Tryd.prog 35 #[.int .i64 k, .int .u64 n] w fun e w' => e = .returned (.agg #[.int .i64 k, .int .u64 n, .string ⟨#[]⟩, .slice none 0 0]) ∧ Below w.heap.size w w' := by
  go_enter Tryd.func35, Tryd.ntmps35
  go_wp2
  exact bodyPost_ret (v := .agg #[.int .i64 k, .int .u64 n, .string ⟨#[]⟩, .slice none 0 0]) (by simp [results, Tryd.results35, go_sem]) rfl ⟨rfl, below_new _ _⟩
set_option maxRecDepth 100000 in
set_option maxHeartbeats 2000000 in
theorem lives16 (w : World) (hT : Tb w) : Calls Tryd.prog 18 #[] w fun e w' => e = .returned (.bool true) ∧ Below w.heap.size w w' := by
  have c1 := fun W hW => least_at 0 _ least0 W (by decide) (by decide) hW
  have c2 := fun W hW => least_at 200 _ least200 W (by decide) (by decide) hW
  go_enter Tryd.func18, Tryd.ntmps18
  go_wp2_with fail
  refine (N_calls _ _ _).mono ?_
  rintro e w1 ⟨rfl, hb1⟩
  go_wp2_with fail
  refine (c1 _ (hT.below hb1)).mono ?_
  rintro e w2 ⟨rfl, hb2⟩
  have HB2 := below_step hb1 hb2
  go_wp2_with fail
  refine (N_calls _ _ _).mono ?_
  rintro e w3 ⟨rfl, hb3⟩
  have HB3 := below_step HB2 hb3
  go_wp2_with fail
  refine (c2 _ (hT.below HB3)).mono ?_
  rintro e w4 ⟨rfl, hb4⟩
  have HB4 := below_step HB3 hb4
  go_wp2_with fail
  refine (N_calls _ _ _).mono ?_
  rintro e w5 ⟨rfl, hb5⟩
  have HB5 := below_step HB4 hb5
  go_wp2_with fail
  refine (put_at _ (hT.below HB5)).mono ?_
  rintro e w6 ⟨rfl, hb6⟩
  have HB6 := below_step HB5 hb6
  go_wp2_with fail
  go_ret
  exact ⟨rfl, HB6⟩
end Go.Proofs.YtekpofpgkokoiaaDoor.M
