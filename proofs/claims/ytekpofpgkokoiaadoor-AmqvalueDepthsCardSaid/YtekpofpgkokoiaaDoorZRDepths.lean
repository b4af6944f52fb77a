/- AmqvalueDepths, the tied card: for any value and two depths the law answers true. -/
import Derived.Test.YtekpofpgkokoiaaDoorZQlaw17AmqvalueDepthsa
import Derived.Test.YtekpofpgkokoiaaDoorZPDepths
import Derived.Test.YtekpofpgkokoiaaDoorZOpl
import Derived.Test.YtekpofpgkokoiaaDoorZRow
import Derived.Test.YtekpofpgkokoiaaDoorZFacts
import Derived.Test.YtekpofpgkokoiaaDoorTie
import Derived.Test.YtekpofpgkokoiaaDoorZOpen
import Derived.SizedLaws
import Derived.OpenShut
import Derived.ShutString
import Derived.ChangeOld
import Derived.Below
import Derived.ProofKit
import Derived.WideShapes
set_option linter.unusedVariables false
set_option linter.unusedSimpArgs false
namespace Go.Proofs.YtekpofpgkokoiaaDoor.M
open Go.ChangeShapes Go.WideShapes Go.ChangeAt Go.RowKit Go.Proofs.YtekpofpgkokoiaaDoorW.PrintWords
open Go.ChangeMaps (open_string shut_string)
set_option maxRecDepth 100000
theorem amqvalueDepths_lifted (os : Os) (started : os.Started) (H : Type) (enc : TypeId × Value → H) :
    ReturnsInHanded {} Tryd.checked os 12 .any (fun w args => (Rows.amqvalueDepthsSpec.pre enc Tryd.prog Tryd.f12 [] false w args ∧ laidMetH Tryd.prog laidTwo w) ∧ sizedMet enc Tryd.prog Tryd.f12 (OpenSpec.ofChange Rows.amqvalueDepthsSpec) false w args)
      (Rows.amqvalueDepthsSpec.post enc Tryd.prog Tryd.f12 false true false false) := by
  refine returnsInHanded_of_change_and (C := Tryd.checked) (X := fun w _ => laidMetH Tryd.prog laidTwo w) (fun _ _ _ hh h => h.of_heap hh) own started (by kernel_rfl) Tryd.func12
    (ChangeSpec.witness_shaped (enc := enc) (C := Tryd.checked) (os := os) (X := fun w _ => laidMetH Tryd.prog laidTwo w) false (laidWorld os) #[.agg #[.int .i64 0, .int .u64 0, .string ⟨#[]⟩, .slice none 0 0], .int .i64 0, .int .i64 0] 8 rfl (World.shaped_of_RefB (by kernel_rfl) (by kernel_rfl)) (by kernel_rfl) (by kernel_rfl) (by kernel_rfl) (laid_met os _)) ?_
  intro W base args ds gs before hval0 hW _ hsz0 hL _
  have hsz : (DataW.weightsEach Tryd.prog (Tryd.f12.params.toList ++ Rows.amqvalueDepthsSpec.plain.varTypes Tryd.prog) (ds ++ gs)).all (· ≤ reachBytes) = true := hsz0
  have hval : ∀ (j : Nat) t v, Tryd.f12.params[j]? = some t → args[j]? = some v → Value.okWide Tryd.prog W .any base t v := hval0
  have hW' := hW
  obtain ⟨p, q, hA0, hV, rfl, hfz, hnd⟩ := hW
  have hA : DataW.TrodAll enc Tryd.prog W 0 (fun _ => true) true Tryd.f12.params.toList args.toList ds p := hA0
  rw [Tryd.params12] at hA hval hsz
  obtain ⟨v0, vs0, d0, ds0, p0, q0, hargs, rfl, rfl, h0, r0⟩ := trodAll_cons hA
  obtain ⟨v1, vs1, d1, ds1, p1, q1, rfl, rfl, rfl, h1, r1⟩ := trodAll_cons r0
  obtain ⟨v2, vs2, d2, ds2, p2, q2, rfl, rfl, rfl, h2, r2⟩ := trodAll_cons r1
  obtain ⟨rfl, rfl, rfl⟩ := trodAll_nil r2
  obtain rfl : args = #[v0, v1, v2] := by cases args; simp_all
  obtain ⟨rfl, rfl⟩ := trodVars_none hV
  obtain ⟨cs0, rfl, _⟩ := okWide_struct Tryd.underlying25 (hval 0 25 v0 rfl rfl)
  have k0 := h0
  have lt0 : ∀ x ∈ p0, x.block < W.heap.size := by obtain ⟨m, hm⟩ := k0; exact DataW.trod_lt m _ _ _ hm
  obtain ⟨fuel0, hf0⟩ := h0
  obtain ⟨x0, hw0, hK0⟩ := open_V fuel0 hf0
  obtain ⟨A0, c0, hcs0, hl0, hg0⟩ := kV_open hK0
  obtain rfl : cs0 = #[.int .i64 x0.kind, .int .u64 x0.n, .string x0.text, .slice A0 x0.items.length c0] := by cases cs0; simpa [Value.cells] using hcs0
  obtain ⟨a1, rfl, rfl, rfl, w1⟩ := open_int Tryd.underlying3 (hval 1 3 v1 rfl rfl) h1
  have b1 := w1
  simp [Lit.wf, IntKind.min, IntKind.max, IntKind.signed, IntKind.bits] at b1
  obtain ⟨a2, rfl, rfl, rfl, w2⟩ := open_int Tryd.underlying3 (hval 2 3 v2 rfl rfl) h2
  have b2 := w2
  simp [Lit.wf, IntKind.min, IntKind.max, IntKind.signed, IntKind.bits] at b2
  clear hA0 hval0 hsz0 hsz
  obtain ⟨k, hk⟩ := (P.depths_pure x0 hw0 a1 (by omega) (by omega) a2 (by omega) (by omega)).get
  refine (Q.polyglotlaw17_AmqvalueDepths.calls k x0.kind x0.n x0.text (fun k_ => k_ < W.heap.size) A0 c0 x0.items a1 a2 true W (tb_of hL) (Kd.V_mk hl0 (Kd.C_F heapV hg0)) hk).mono fun e W' ⟨he, bel⟩ => ?_
  subst he
  exact ⟨_, rfl, _, _, _, [], _, [], hW', trodAll_mk1 (shut_bool Tryd.underlying4 _), (trodAll_cons_mk (Below.trod laidOut (by kernel_rfl) (of_decide_eq_true (by kernel_rfl)) k0 bel lt0) (trodAll_cons_mk (shut_int Tryd.underlying3 w1) (trodAll_cons_mk (shut_int Tryd.underlying3 w2) trodAll_mk0))), rfl, bel.frame _, fun h => by cases h⟩
set_option maxHeartbeats 4000000 in
theorem amqvalueDepths_joined : joinedFacts Tryd.pinned.checked.prog 12 Tryd.f12 Rows.amqvalueDepthsSpec Rows.amqvalueDepthsRow = true := by
  simp only [joinedFacts, Bool.and_eq_true]
  repeat' apply And.intro
  all_goals first
    | (with_reducible show (_ == Program.liftsFinal _) = true; exact p_lifted)
    | (with_reducible show (Program.make _ == _) = true; exact p_make)
    | (with_reducible show Program.mayEnter _ = true; exact p_mayEnter)
    | (as_aux_lemma => kernel_rfl)
set_option maxHeartbeats 4000000 in
theorem amqvalueDepths_row : Rows.AmqvalueDepthsSaid :=
  OpenClaim.holds_of_wide 12 Tryd.f12 rfl rfl rfl rfl rfl rfl rfl ⟨rfl, rfl, rfl, rfl, rfl⟩ rfl rfl rfl rfl rfl (by as_aux_lemma => kernel_rfl) Tryd.func12 amqvalueDepths_joined
    (of_decide_eq_true (by as_aux_lemma => kernel_rfl)) (by unfold Func.isWrapper; first | (rw [if_pos (by decide +kernel)]; as_aux_lemma => kernel_rfl) | (rw [if_neg (by decide +kernel)]; exact ⟨rfl, rfl⟩))
    (fun os started H enc _ => amqvalueDepths_lifted os started H enc)
theorem amqvalueDepths_wf : Rows.amqvalueDepthsRow.wfByText (OpenSpec.ofChange Rows.amqvalueDepthsSpec) = true := by kernel_rfl
theorem amqvalueDepths_goes : false = Rows.amqvalueDepthsRow.goesBy Tryd.pinned.checked.prog := by kernel_rfl
theorem amqvalueDepths_func : Tryd.prog.funcNamed "polyglot/polyglotlaw17.AmqvalueDepths" = some 12 := by kernel_rfl
theorem amqvalueDepths_stand_Vs : Tryd.prog.wantsStandIn 25 = false := by kernel_rfl
theorem amqvalueDepths_stand_i : Tryd.prog.wantsStandIn 3 = false := by kernel_rfl
set_option maxHeartbeats 4000000 in
theorem amqvalueDepths_card : Rows.AmqvalueDepthsCardSaid :=
  Claim7.holds_tied_plain_at .later [] [.data, .pinned] true _ false
    amqvalueDepths_row (fun _ h => by cases h) amqvalueDepths_wf (fun _ h => by cases h) amqvalueDepths_row_tie rfl ⟨rfl, rfl⟩ p_mainIs rfl
    (fun f fn hf hfn => by
      obtain rfl : f = 12 := Option.some.inj (amqvalueDepths_func.symm.trans hf) |>.symm
      obtain rfl : fn = Tryd.f12 := (Option.some.inj (Tryd.func12.symm.trans hfn)).symm
      exact ⟨p_looks, fun j t ht => by
        rw [Tryd.params12] at ht
        rcases j with _ | _ | _ | j
        · obtain rfl : t = 25 := by simpa using ht.symm
          exact amqvalueDepths_stand_Vs
        · obtain rfl : t = 3 := by simpa using ht.symm
          exact amqvalueDepths_stand_i
        · obtain rfl : t = 3 := by simpa using ht.symm
          exact amqvalueDepths_stand_i
        · simp at ht⟩)
    amqvalueDepths_goes
end Go.Proofs.YtekpofpgkokoiaaDoor.M
namespace Go.Proofs.YtekpofpgkokoiaaDoor
theorem amqvalueDepths_holds : Rows.AmqvalueDepthsCardSaid := M.amqvalueDepths_card
#print axioms amqvalueDepths_holds
end Go.Proofs.YtekpofpgkokoiaaDoor
