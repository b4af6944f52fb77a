/- AmqprimCodes, the tied card: for any kind and code the law answers true. -/
import Derived.Test.YtekpofpgkokoiaaDoorLCodes
import Derived.Test.YtekpofpgkokoiaaDoorFacts
import Derived.Test.YtekpofpgkokoiaaDoorTie
namespace Go.Proofs.YtekpofpgkokoiaaDoor.M
open Go.ChangeShapes Go.WideShapes Go.ChangeAt Go.RowKit
set_option maxRecDepth 100000

theorem codes_lifted (os : Os) (started : os.Started) (H : Type) (enc : TypeId × Value → H) :
    ReturnsInHanded {} Tryd.checked os 4 .any (fun w args => (Rows.amqprimCodesSpec.pre enc Tryd.prog Tryd.f4 [] false w args ∧ laidMetH Tryd.prog laidTwo w) ∧ sizedMet enc Tryd.prog Tryd.f4 (OpenSpec.ofChange Rows.amqprimCodesSpec) false w args)
      (Rows.amqprimCodesSpec.post enc Tryd.prog Tryd.f4 false true false false) := by
  refine returnsInHanded_of_change_and (C := Tryd.checked) (X := fun w _ => laidMetH Tryd.prog laidTwo w) (fun _ _ _ hh h => h.of_heap hh) own started (by kernel_rfl) Tryd.func4
    (ChangeSpec.witness_shaped (enc := enc) (C := Tryd.checked) (os := os) (X := fun w _ => laidMetH Tryd.prog laidTwo w) false (laidWorld os) #[.int .i64 0, .int .i64 0] 8 rfl (World.shaped_of_RefB (by kernel_rfl) (by kernel_rfl)) (by kernel_rfl) (by kernel_rfl) (by kernel_rfl) (laid_met os _)) ?_
  intro W base args ds gs before hval0 hW _ _ hL _
  have hval : ∀ (j : Nat) t v, Tryd.f4.params[j]? = some t → args[j]? = some v → Value.okWide Tryd.prog W .any base t v := hval0
  have hW' := hW
  obtain ⟨p, q, hA0, hV, rfl, hfz, hnd⟩ := hW
  have hA : DataW.TrodAll enc Tryd.prog W 0 (fun _ => true) true Tryd.f4.params.toList args.toList ds p := hA0
  rw [Tryd.params4] at hA hval
  obtain ⟨v0, v1, d0, d1, p0, p1, rfl, rfl, rfl, h0, h1⟩ := trodAll_two hA
  obtain ⟨rfl, rfl⟩ := trodVars_none hV
  obtain ⟨a, rfl, rfl, rfl, wa⟩ := open_int Tryd.underlying3 (hval 0 3 v0 rfl rfl) h0
  obtain ⟨b, rfl, rfl, rfl, wb⟩ := open_int Tryd.underlying3 (hval 1 3 v1 rfl rfl) h1
  clear hA0 hval0
  simp only [List.append_nil] at hW'
  refine (law_codes a b W (tb_of hL)).mono fun e W' ⟨he, bel⟩ => ?_
  subst he
  exact ⟨_, rfl, _, _, _, [], _, [], hW', trodAll_mk1 (shut_bool Tryd.underlying4 _), trodAll_mk2 (shut_int Tryd.underlying3 wa) (shut_int Tryd.underlying3 wb), rfl, bel.frame _, fun h => by cases h⟩

set_option maxHeartbeats 4000000 in
theorem codes_joined : joinedFacts Tryd.pinned.checked.prog 4 Tryd.f4 Rows.amqprimCodesSpec Rows.amqprimCodesRow = true := by
  simp only [joinedFacts, Bool.and_eq_true]
  repeat' apply And.intro
  all_goals first
    | (with_reducible show (_ == Program.liftsFinal _) = true; exact p_lifted)
    | (with_reducible show (Program.make _ == _) = true; exact p_make)
    | (with_reducible show Program.mayEnter _ = true; exact p_mayEnter)
    | (as_aux_lemma => kernel_rfl)
set_option maxHeartbeats 4000000 in
theorem codes_row : Rows.AmqprimCodesSaid :=
  OpenClaim.holds_of_wide 4 Tryd.f4 rfl rfl rfl rfl rfl rfl rfl ⟨rfl, rfl, rfl, rfl, rfl⟩ rfl rfl rfl rfl rfl (by as_aux_lemma => kernel_rfl) Tryd.func4 codes_joined
    (of_decide_eq_true (by as_aux_lemma => kernel_rfl)) (by unfold Func.isWrapper; first | (rw [if_pos (by decide +kernel)]; as_aux_lemma => kernel_rfl) | (rw [if_neg (by decide +kernel)]; exact ⟨rfl, rfl⟩))
    (fun os started H enc _ => codes_lifted os started H enc)
theorem codes_wf : Rows.amqprimCodesRow.wfByText (OpenSpec.ofChange Rows.amqprimCodesSpec) = true := by kernel_rfl
theorem codes_goes : false = Rows.amqprimCodesRow.goesBy Tryd.pinned.checked.prog := by kernel_rfl
theorem codes_func : Tryd.prog.funcNamed "polyglot/polyglotlaw16.AmqprimCodes" = some 4 := by kernel_rfl
theorem stand_int : Tryd.prog.wantsStandIn 3 = false := by kernel_rfl

set_option maxHeartbeats 4000000 in
theorem codes_card : Rows.AmqprimCodesCardSaid :=
  Claim7.holds_tied_plain_at .later [] [.data, .pinned] true _ false
    codes_row (fun _ h => by cases h) codes_wf (fun _ h => by cases h) amqprimCodes_row_tie rfl ⟨rfl, rfl⟩ p_mainIs rfl
    (fun f fn hf hfn => by
      obtain rfl : f = 4 := Option.some.inj (codes_func.symm.trans hf) |>.symm
      obtain rfl : fn = Tryd.f4 := (Option.some.inj (Tryd.func4.symm.trans hfn)).symm
      exact ⟨p_looks, fun j t ht => by
        rw [Tryd.params4] at ht
        have h3 : t = 3 := by
          rcases j with _ | _ | j
          · simpa using ht.symm
          · simpa using ht.symm
          · simp at ht
        subst h3
        exact stand_int⟩)
    codes_goes
end Go.Proofs.YtekpofpgkokoiaaDoor.M
namespace Go.Proofs.YtekpofpgkokoiaaDoor
theorem amqprimCodes_holds : Rows.AmqprimCodesCardSaid := M.codes_card
#print axioms amqprimCodes_holds
end Go.Proofs.YtekpofpgkokoiaaDoor
