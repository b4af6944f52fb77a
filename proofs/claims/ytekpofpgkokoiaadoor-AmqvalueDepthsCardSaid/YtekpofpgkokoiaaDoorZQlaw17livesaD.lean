/- A part of this claim: what its theorem leans on. -/
import Derived.Test.YtekpofpgkokoiaaDoorZQ0
import Derived.Test.YtekpofpgkokoiaaDoorZQpolyglotkitaD
import Derived.Test.YtekpofpgkokoiaaDoorZQkitSameaD
import Derived.Test.YtekpofpgkokoiaaDoorZVf
namespace Go.Proofs.YtekpofpgkokoiaaDoor.Q
open Go.RowKit Go.Proofs.YtekpofpgkokoiaaDoor.M Go.Proofs.YtekpofpgkokoiaaDoorW.PrintWords Go.Proofs.YtekpofpgkokoiaaDoorW.PrintLast Go.Proofs.YtekpofpgkokoiaaDoorW.PrintMore
attribute [local go_sem] max2_int min2_int max_two min_two max_three min_three max_four min_four
set_option linter.unusedVariables false
set_option linter.unusedSimpArgs false
def polyglotlaw17_lives.f (k : Nat)  : Option (Bool) := (amqvalue_Read.f (⟨#[192, 3, 2, 65, 64]⟩ : ByteArray) 2).bind fun bt205 => ((amqvalue_Read.f (⟨#[224, 4, 2, 80, 1, 2]⟩ : ByteArray) 2).bind fun bt214 => ((polyglotkit_N.f 3 1).bind fun bt223 => (if bt205.2.2.2.2.2 = 0 then (if bt214.2.2.2.2.2 = 0 then (if bt205.2.2.2.2.1 = 5 then (if bt214.2.2.2.2.1 = 6 then ((polyglotkit_N.f 2 1).bind fun bt230 => ((polyglotkit_N.f 1 0).bind fun bt236 => ((polyglotkit_L.f (([(⟨bt230.1, bt230.2.1, bt230.2.2.1, bt230.2.2.2⟩ : Vl), (⟨bt236.1, bt236.2.1, bt236.2.2.1, bt236.2.2.2⟩ : Vl)] : List (Vl)))).bind fun bt245 => ((polyglotkit_SameValue.f k bt205.1 bt205.2.1 bt205.2.2.1 bt205.2.2.2.1 bt245.1 bt245.2.1 bt245.2.2.1 bt245.2.2.2).bind fun t251 => (if t251 = true then ((polyglotkit_N.f 3 2).bind fun bt252 => ((polyglotkit_SameValue.f k bt214.1 bt214.2.1 bt214.2.2.1 bt214.2.2.2.1 24 3 (⟨#[]⟩ : ByteArray) (([(⟨bt223.1, bt223.2.1, bt223.2.2.1, bt223.2.2.2⟩ : Vl), (⟨bt252.1, bt252.2.1, bt252.2.2.1, bt252.2.2.2⟩ : Vl)] : List (Vl)))).bind fun t261 => (some t261))) else (none)))))) else (none)) else (none)) else (none)) else (none))))
theorem polyglotlaw17_lives.mono : ∀ k, LeO (polyglotlaw17_lives.f k ) (polyglotlaw17_lives.f (k + 1) ) := by
  intro  k
  unfold polyglotlaw17_lives.f
  repeat' first
      | (with_reducible exact polyglotkit_SameValue.mono _ _ _ _ _ _ _ _ _)
      | (with_reducible exact LeO.refl _)
      | (with_reducible exact LeO.none _)
      | (with_reducible refine LeO.ite ?_ ?_)
      | (with_reducible refine LeO.bind ?_ (fun _ => ?_))
      | exact polyglotkit_SameValue.mono _ _ _ _ _ _ _ _ _
      | exact LeO.none _
      | refine LeO.ite ?_ ?_
      | refine LeO.bind ?_ (fun _ => ?_)
end Go.Proofs.YtekpofpgkokoiaaDoor.Q
