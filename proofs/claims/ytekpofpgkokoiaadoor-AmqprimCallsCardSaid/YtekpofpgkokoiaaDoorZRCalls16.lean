/- AmqprimCalls, the tied card: for any constructor, value, kind and bytes the law answers true. -/
import Derived.Test.YtekpofpgkokoiaaDoorZQlaw16AmqprimCallsa
import Derived.Test.YtekpofpgkokoiaaDoorZPCalls16
import Derived.Test.YtekpofpgkokoiaaDoorZRow
import Derived.Test.YtekpofpgkokoiaaDoorZFacts
import Derived.Test.YtekpofpgkokoiaaDoorTie
import Derived.Test.YtekpofpgkokoiaaDoorZOpen
import Derived.SizedLaws
import Derived.OpenShut
import Derived.ShutString
import Derived.ChangeOld
import Derived.Below
import Derived.ProofKit
import Derived.WideShapes
set_option linter.unusedVariables false
set_option linter.unusedSimpArgs false
namespace Go.Proofs.YtekpofpgkokoiaaDoor.M
open Go.ChangeShapes Go.WideShapes Go.ChangeAt Go.RowKit Go.Proofs.YtekpofpgkokoiaaDoorW.PrintWords
open Go.ChangeMaps (open_string shut_string)
set_option maxRecDepth 100000
theorem amqprimCalls_lifted (os : Os) (started : os.Started) (H : Type) (enc : TypeId × Value → H) :
    ReturnsInHanded {} Tryd.checked os 7 .any (fun w args => (Rows.amqprimCallsSpec.pre enc Tryd.prog Tryd.f7 [] false w args ∧ laidMetH Tryd.prog laidTwo w) ∧ sizedMet enc Tryd.prog Tryd.f7 (OpenSpec.ofChange Rows.amqprimCallsSpec) false w args)
      (Rows.amqprimCallsSpec.post enc Tryd.prog Tryd.f7 false true false false) := by
  refine returnsInHanded_of_change_and (C := Tryd.checked) (X := fun w _ => laidMetH Tryd.prog laidTwo w) (fun _ _ _ hh h => h.of_heap hh) own started (by kernel_rfl) Tryd.func7
    (ChangeSpec.witness_shaped (enc := enc) (C := Tryd.checked) (os := os) (X := fun w _ => laidMetH Tryd.prog laidTwo w) false (laidWorld os) #[.int .i64 0, .agg #[.int .i64 0, .int .u64 0, .string ⟨#[]⟩, .slice none 0 0], .int .i64 0, .string ⟨#[]⟩] 8 rfl (World.shaped_of_RefB (by kernel_rfl) (by kernel_rfl)) (by kernel_rfl) (by kernel_rfl) (by kernel_rfl) (laid_met os _)) ?_
  intro W base args ds gs before hval0 hW _ hsz0 hL _
  have hsz : (DataW.weightsEach Tryd.prog (Tryd.f7.params.toList ++ Rows.amqprimCallsSpec.plain.varTypes Tryd.prog) (ds ++ gs)).all (· ≤ reachBytes) = true := hsz0
  have hval : ∀ (j : Nat) t v, Tryd.f7.params[j]? = some t → args[j]? = some v → Value.okWide Tryd.prog W .any base t v := hval0
  have hW' := hW
  obtain ⟨p, q, hA0, hV, rfl, hfz, hnd⟩ := hW
  have hA : DataW.TrodAll enc Tryd.prog W 0 (fun _ => true) true Tryd.f7.params.toList args.toList ds p := hA0
  rw [Tryd.params7] at hA hval hsz
  obtain ⟨v0, vs0, d0, ds0, p0, q0, hargs, rfl, rfl, h0, r0⟩ := trodAll_cons hA
  obtain ⟨v1, vs1, d1, ds1, p1, q1, rfl, rfl, rfl, h1, r1⟩ := trodAll_cons r0
  obtain ⟨v2, vs2, d2, ds2, p2, q2, rfl, rfl, rfl, h2, r2⟩ := trodAll_cons r1
  obtain ⟨v3, vs3, d3, ds3, p3, q3, rfl, rfl, rfl, h3, r3⟩ := trodAll_cons r2
  obtain ⟨rfl, rfl, rfl⟩ := trodAll_nil r3
  obtain rfl : args = #[v0, v1, v2, v3] := by cases args; simp_all
  obtain ⟨rfl, rfl⟩ := trodVars_none hV
  obtain ⟨a0, rfl, rfl, rfl, w0⟩ := open_int Tryd.underlying3 (hval 0 3 v0 rfl rfl) h0
  have b0 := w0
  simp [Lit.wf, IntKind.min, IntKind.max, IntKind.signed, IntKind.bits] at b0
  obtain ⟨cs1, rfl, _⟩ := okWide_struct Tryd.underlying25 (hval 1 25 v1 rfl rfl)
  have k1 := h1
  have lt1 : ∀ x ∈ p1, x.block < W.heap.size := by obtain ⟨m, hm⟩ := k1; exact DataW.trod_lt m _ _ _ hm
  obtain ⟨fuel1, hf1⟩ := h1
  obtain ⟨x1, hw1, hK1⟩ := open_V fuel1 hf1
  obtain ⟨A1, c1, hcs1, hl1, hg1⟩ := kV_open hK1
  obtain rfl : cs1 = #[.int .i64 x1.kind, .int .u64 x1.n, .string x1.text, .slice A1 x1.items.length c1] := by cases cs1; simpa [Value.cells] using hcs1
  obtain ⟨a2, rfl, rfl, rfl, w2⟩ := open_int Tryd.underlying3 (hval 2 3 v2 rfl rfl) h2
  have b2 := w2
  simp [Lit.wf, IntKind.min, IntKind.max, IntKind.signed, IntKind.bits] at b2
  obtain ⟨a3, rfl, rfl, rfl, y3⟩ := open_string Tryd.underlying9 (hval 3 9 v3 rfl rfl) h3
  have w3 : a3.size ≤ 140737488351232 := by
    have z := sized_string hsz (j := 3) (t := 9) rfl rfl
    rw [Array.length_toList] at z
    exact z
  clear hA0 hval0 hsz0 hsz
  obtain ⟨k, hk⟩ := (P.calls16_pure a0 (by omega) (by omega) x1 hw1 a2 (by omega) (by omega) a3 w3).get
  refine (Q.polyglotlaw16_AmqprimCalls.calls k a0 x1.kind x1.n x1.text A1 c1 x1.items a2 a3 true W (tb_of hL) hg1 hl1 hk).mono fun e W' ⟨he, bel⟩ => ?_
  subst he
  exact ⟨_, rfl, _, _, _, [], _, [], hW', trodAll_mk1 (shut_bool Tryd.underlying4 _), (trodAll_cons_mk (shut_int Tryd.underlying3 w0) (trodAll_cons_mk (Below.trod laidOut (by kernel_rfl) (of_decide_eq_true (by kernel_rfl)) k1 bel lt1) (trodAll_cons_mk (shut_int Tryd.underlying3 w2) (trodAll_cons_mk (shut_string Tryd.underlying9 y3) trodAll_mk0)))), rfl, bel.frame _, fun h => by cases h⟩
set_option maxHeartbeats 4000000 in
theorem amqprimCalls_joined : joinedFacts Tryd.pinned.checked.prog 7 Tryd.f7 Rows.amqprimCallsSpec Rows.amqprimCallsRow = true := by
  simp only [joinedFacts, Bool.and_eq_true]
  repeat' apply And.intro
  all_goals first
    | (with_reducible show (_ == Program.liftsFinal _) = true; exact p_lifted)
    | (with_reducible show (Program.make _ == _) = true; exact p_make)
    | (with_reducible show Program.mayEnter _ = true; exact p_mayEnter)
    | (as_aux_lemma => kernel_rfl)
set_option maxHeartbeats 4000000 in
theorem amqprimCalls_row : Rows.AmqprimCallsSaid :=
  OpenClaim.holds_of_wide 7 Tryd.f7 rfl rfl rfl rfl rfl rfl rfl ⟨rfl, rfl, rfl, rfl, rfl⟩ rfl rfl rfl rfl rfl (by as_aux_lemma => kernel_rfl) Tryd.func7 amqprimCalls_joined
    (of_decide_eq_true (by as_aux_lemma => kernel_rfl)) (by unfold Func.isWrapper; first | (rw [if_pos (by decide +kernel)]; as_aux_lemma => kernel_rfl) | (rw [if_neg (by decide +kernel)]; exact ⟨rfl, rfl⟩))
    (fun os started H enc _ => amqprimCalls_lifted os started H enc)
theorem amqprimCalls_wf : Rows.amqprimCallsRow.wfByText (OpenSpec.ofChange Rows.amqprimCallsSpec) = true := by kernel_rfl
theorem amqprimCalls_goes : false = Rows.amqprimCallsRow.goesBy Tryd.pinned.checked.prog := by kernel_rfl
theorem amqprimCalls_func : Tryd.prog.funcNamed "polyglot/polyglotlaw16.AmqprimCalls" = some 7 := by kernel_rfl
theorem amqprimCalls_stand_i : Tryd.prog.wantsStandIn 3 = false := by kernel_rfl
theorem amqprimCalls_stand_V : Tryd.prog.wantsStandIn 25 = false := by kernel_rfl
theorem amqprimCalls_stand_s : Tryd.prog.wantsStandIn 9 = false := by kernel_rfl
set_option maxHeartbeats 4000000 in
theorem amqprimCalls_card : Rows.AmqprimCallsCardSaid :=
  Claim7.holds_tied_plain_at .later [] [.data, .pinned] true _ false
    amqprimCalls_row (fun _ h => by cases h) amqprimCalls_wf (fun _ h => by cases h) amqprimCalls_row_tie rfl ⟨rfl, rfl⟩ p_mainIs rfl
    (fun f fn hf hfn => by
      obtain rfl : f = 7 := Option.some.inj (amqprimCalls_func.symm.trans hf) |>.symm
      obtain rfl : fn = Tryd.f7 := (Option.some.inj (Tryd.func7.symm.trans hfn)).symm
      exact ⟨p_looks, fun j t ht => by
        rw [Tryd.params7] at ht
        rcases j with _ | _ | _ | _ | j
        · obtain rfl : t = 3 := by simpa using ht.symm
          exact amqprimCalls_stand_i
        · obtain rfl : t = 25 := by simpa using ht.symm
          exact amqprimCalls_stand_V
        · obtain rfl : t = 3 := by simpa using ht.symm
          exact amqprimCalls_stand_i
        · obtain rfl : t = 9 := by simpa using ht.symm
          exact amqprimCalls_stand_s
        · simp at ht⟩)
    amqprimCalls_goes
end Go.Proofs.YtekpofpgkokoiaaDoor.M
namespace Go.Proofs.YtekpofpgkokoiaaDoor
theorem amqprimCalls_holds : Rows.AmqprimCallsCardSaid := M.amqprimCalls_card
#print axioms amqprimCalls_holds
end Go.Proofs.YtekpofpgkokoiaaDoor
