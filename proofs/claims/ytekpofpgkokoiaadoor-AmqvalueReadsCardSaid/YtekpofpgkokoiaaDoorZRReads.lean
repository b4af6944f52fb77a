/- AmqvalueReads, the tied card: for any bytes, further bytes, depth and cut the law answers true. -/
import Derived.Test.YtekpofpgkokoiaaDoorZQlaw17AmqvalueReadsa
import Derived.Test.YtekpofpgkokoiaaDoorZPReads
import Derived.Test.YtekpofpgkokoiaaDoorZRow
import Derived.Test.YtekpofpgkokoiaaDoorZFacts
import Derived.Test.YtekpofpgkokoiaaDoorTie
import Derived.Test.YtekpofpgkokoiaaDoorZH1
import Derived.ProofKit
import Derived.Lib.SmallJoins
import Derived.Deep.Slices
import Derived.ChangeOld
import Derived.Below
import Derived.SizedLaws
import Derived.OpenShut
import Derived.ShutString
import Derived.WideShapes
set_option linter.unusedVariables false
set_option linter.unusedSimpArgs false
namespace Go.Proofs.YtekpofpgkokoiaaDoor.M
open Go.ChangeShapes Go.WideShapes Go.ChangeAt Go.RowKit Go.Proofs.YtekpofpgkokoiaaDoorW.PrintWords
open Go.ChangeMaps (open_string shut_string)
set_option maxRecDepth 100000
theorem amqvalueReads_lifted (os : Os) (started : os.Started) (H : Type) (enc : TypeId × Value → H) :
    ReturnsInHanded {} Tryd.checked os 11 .any (fun w args => (Rows.amqvalueReadsSpec.pre enc Tryd.prog Tryd.f11 [] false w args ∧ laidMetH Tryd.prog laidTwo w) ∧ sizedMet enc Tryd.prog Tryd.f11 (OpenSpec.ofChange Rows.amqvalueReadsSpec) false w args)
      (Rows.amqvalueReadsSpec.post enc Tryd.prog Tryd.f11 false true false false) := by
  refine returnsInHanded_of_change_and (C := Tryd.checked) (X := fun w _ => laidMetH Tryd.prog laidTwo w) (fun _ _ _ hh h => h.of_heap hh) own started (by kernel_rfl) Tryd.func11
    (ChangeSpec.witness_shaped (enc := enc) (C := Tryd.checked) (os := os) (X := fun w _ => laidMetH Tryd.prog laidTwo w) false (laidWorld os) #[.string ⟨#[]⟩, .string ⟨#[]⟩, .int .i64 0, .int .i64 0] 8 rfl (World.shaped_of_RefB (by kernel_rfl) (by kernel_rfl)) (by kernel_rfl) (by kernel_rfl) (by kernel_rfl) (laid_met os _)) ?_
  intro W base args ds gs before hval0 hW _ hsz0 hL _
  have hsz : (DataW.weightsEach Tryd.prog (Tryd.f11.params.toList ++ Rows.amqvalueReadsSpec.plain.varTypes Tryd.prog) (ds ++ gs)).all (· ≤ reachBytes) = true := hsz0
  have hval : ∀ (j : Nat) t v, Tryd.f11.params[j]? = some t → args[j]? = some v → Value.okWide Tryd.prog W .any base t v := hval0
  have hW' := hW
  obtain ⟨p, q, hA0, hV, rfl, hfz, hnd⟩ := hW
  have hA : DataW.TrodAll enc Tryd.prog W 0 (fun _ => true) true Tryd.f11.params.toList args.toList ds p := hA0
  rw [Tryd.params11] at hA hval hsz
  obtain ⟨v0, vs0, d0, ds0, p0, q0, hargs, rfl, rfl, h0, r0⟩ := trodAll_cons hA
  obtain ⟨v1, vs1, d1, ds1, p1, q1, rfl, rfl, rfl, h1, r1⟩ := trodAll_cons r0
  obtain ⟨v2, vs2, d2, ds2, p2, q2, rfl, rfl, rfl, h2, r2⟩ := trodAll_cons r1
  obtain ⟨v3, vs3, d3, ds3, p3, q3, rfl, rfl, rfl, h3, r3⟩ := trodAll_cons r2
  obtain ⟨rfl, rfl, rfl⟩ := trodAll_nil r3
  obtain rfl : args = #[v0, v1, v2, v3] := by cases args; simp_all
  obtain ⟨rfl, rfl⟩ := trodVars_none hV
  obtain ⟨a0, rfl, rfl, rfl, y0⟩ := open_string Tryd.underlying9 (hval 0 9 v0 rfl rfl) h0
  have w0 : a0.size ≤ 140737488351232 := by
    have z := sized_string hsz (j := 0) (t := 9) rfl rfl
    rw [Array.length_toList] at z
    exact z
  obtain ⟨a1, rfl, rfl, rfl, y1⟩ := open_string Tryd.underlying9 (hval 1 9 v1 rfl rfl) h1
  have w1 : a1.size ≤ 140737488351232 := by
    have z := sized_string hsz (j := 1) (t := 9) rfl rfl
    rw [Array.length_toList] at z
    exact z
  obtain ⟨a2, rfl, rfl, rfl, w2⟩ := open_int Tryd.underlying3 (hval 2 3 v2 rfl rfl) h2
  have b2 := w2
  simp [Lit.wf, IntKind.min, IntKind.max, IntKind.signed, IntKind.bits] at b2
  obtain ⟨a3, rfl, rfl, rfl, w3⟩ := open_int Tryd.underlying3 (hval 3 3 v3 rfl rfl) h3
  have b3 := w3
  simp [Lit.wf, IntKind.min, IntKind.max, IntKind.signed, IntKind.bits] at b3
  clear hA0 hval0 hsz0 hsz
  obtain ⟨k, hk⟩ := (P.reads_pure a0 w0 a1 w1 a2 (by omega) (by omega) a3 (by omega) (by omega)).get
  refine (Q.polyglotlaw17_AmqvalueReads.calls k a0 a1 a2 a3 true W (tb_of hL)  hk).mono fun e W' ⟨he, bel⟩ => ?_
  subst he
  exact ⟨_, rfl, _, _, _, [], _, [], hW', trodAll_mk1 (shut_bool Tryd.underlying4 _), (trodAll_cons_mk (shut_string Tryd.underlying9 y0) (trodAll_cons_mk (shut_string Tryd.underlying9 y1) (trodAll_cons_mk (shut_int Tryd.underlying3 w2) (trodAll_cons_mk (shut_int Tryd.underlying3 w3) trodAll_mk0)))), rfl, bel.frame _, fun h => by cases h⟩
set_option maxHeartbeats 4000000 in
theorem amqvalueReads_joined : joinedFacts Tryd.pinned.checked.prog 11 Tryd.f11 Rows.amqvalueReadsSpec Rows.amqvalueReadsRow = true := by
  simp only [joinedFacts, Bool.and_eq_true]
  repeat' apply And.intro
  all_goals first
    | (with_reducible show (_ == Program.liftsFinal _) = true; exact p_lifted)
    | (with_reducible show (Program.make _ == _) = true; exact p_make)
    | (with_reducible show Program.mayEnter _ = true; exact p_mayEnter)
    | (as_aux_lemma => kernel_rfl)
set_option maxHeartbeats 4000000 in
theorem amqvalueReads_row : Rows.AmqvalueReadsSaid :=
  OpenClaim.holds_of_wide 11 Tryd.f11 rfl rfl rfl rfl rfl rfl rfl ⟨rfl, rfl, rfl, rfl, rfl⟩ rfl rfl rfl rfl rfl (by as_aux_lemma => kernel_rfl) Tryd.func11 amqvalueReads_joined
    (of_decide_eq_true (by as_aux_lemma => kernel_rfl)) (by unfold Func.isWrapper; first | (rw [if_pos (by decide +kernel)]; as_aux_lemma => kernel_rfl) | (rw [if_neg (by decide +kernel)]; exact ⟨rfl, rfl⟩))
    (fun os started H enc _ => amqvalueReads_lifted os started H enc)
theorem amqvalueReads_wf : Rows.amqvalueReadsRow.wfByText (OpenSpec.ofChange Rows.amqvalueReadsSpec) = true := by kernel_rfl
theorem amqvalueReads_goes : false = Rows.amqvalueReadsRow.goesBy Tryd.pinned.checked.prog := by kernel_rfl
theorem amqvalueReads_func : Tryd.prog.funcNamed "polyglot/polyglotlaw17.AmqvalueReads" = some 11 := by kernel_rfl
theorem amqvalueReads_stand_s : Tryd.prog.wantsStandIn 9 = false := by kernel_rfl
theorem amqvalueReads_stand_i : Tryd.prog.wantsStandIn 3 = false := by kernel_rfl
set_option maxHeartbeats 4000000 in
theorem amqvalueReads_card : Rows.AmqvalueReadsCardSaid :=
  Claim7.holds_tied_plain_at .later [] [.data, .pinned] true _ false
    amqvalueReads_row (fun _ h => by cases h) amqvalueReads_wf (fun _ h => by cases h) amqvalueReads_row_tie rfl ⟨rfl, rfl⟩ p_mainIs rfl
    (fun f fn hf hfn => by
      obtain rfl : f = 11 := Option.some.inj (amqvalueReads_func.symm.trans hf) |>.symm
      obtain rfl : fn = Tryd.f11 := (Option.some.inj (Tryd.func11.symm.trans hfn)).symm
      exact ⟨p_looks, fun j t ht => by
        rw [Tryd.params11] at ht
        rcases j with _ | _ | _ | _ | j
        · obtain rfl : t = 9 := by simpa using ht.symm
          exact amqvalueReads_stand_s
        · obtain rfl : t = 9 := by simpa using ht.symm
          exact amqvalueReads_stand_s
        · obtain rfl : t = 3 := by simpa using ht.symm
          exact amqvalueReads_stand_i
        · obtain rfl : t = 3 := by simpa using ht.symm
          exact amqvalueReads_stand_i
        · simp at ht⟩)
    amqvalueReads_goes
end Go.Proofs.YtekpofpgkokoiaaDoor.M
namespace Go.Proofs.YtekpofpgkokoiaaDoor
theorem amqvalueReads_holds : Rows.AmqvalueReadsCardSaid := M.amqvalueReads_card
#print axioms amqvalueReads_holds
end Go.Proofs.YtekpofpgkokoiaaDoor
