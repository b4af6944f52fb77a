/- A part of this claim: what its theorem leans on. -/
import Derived.Test.YtekpofpgkokoiaaDoorZTh
import Derived.Test.YtekpofpgkokoiaaDoorZKp
set_option linter.unusedVariables false
namespace Go.Proofs.YtekpofpgkokoiaaDoor.M
def OkR (r : Rd) : Prop := match r with | .ok (v, _) => P.Ok v | .error _ => True
theorem tab_kind : ∀ c ∈ tableL, 0 ≤ c.kind ∧ c.kind ≤ 25 := by decide
theorem of_kind {b : Int} {c : Ct} (h : ofO b = some c) : 0 ≤ c.kind ∧ c.kind ≤ 25 := tab_kind c (List.mem_of_find?_eq_some h)
theorem getE_ok (b : Int) (s : Bs) (hs : s.length ≤ 140737488351232) : OkR (getE b s) := by
  cases h : getE b s with
  | error e => trivial
  | ok r =>
    obtain ⟨v, n⟩ := r
    obtain ⟨h1, h2, h3, h4, h5, h6, h7, h8, h9, h10, h11⟩ := P.put_get h
    have hk : 0 ≤ v.kind ∧ v.kind ≤ 25 := by
      rw [h9]
      unfold ofB at h10
      cases ho : ofO b with
      | none => rw [ho] at h10; cases h10
      | some c => have := of_kind ho; unfold ofC; rw [ho]; exact this
    exact P.Ok.mk v ⟨by omega, by omega⟩ h5 h6 (by omega) (by rw [h7]; simp) (by rw [h7]; intro y hy; cases hy)
end Go.Proofs.YtekpofpgkokoiaaDoor.M
