/- A part of this claim: what its theorem leans on. -/
import Derived.Test.YtekpofpgkokoiaaDoorZGp
set_option linter.unusedVariables false
set_option linter.unusedSimpArgs false
namespace Go.Proofs.YtekpofpgkokoiaaDoor.M
def chkM (most : Int) (v : Vl) : Int := if 0 ≤ most ∧ most ≤ 32 then chkV most.toNat v else 2
def rdM (most : Int) (s : Bs) : Rd := if 0 ≤ most ∧ most ≤ 32 then rdE most.toNat s else .error 2
def amqvalue_Read.f (s : ByteArray) (most : Int) : Option (Int × Int × ByteArray × List Vl × Int × Int) := if s.size ≤ 140737488351232 then some (P.outR (rdM most s.data.toList)) else none
mutual
def okVb : Vl → Bool
  | ⟨k, n, t, l⟩ => decide (-9223372036854775808 ≤ k ∧ k ≤ 9223372036854775807) && decide (okN n t) && decide (l.length ≤ 1000000000) && okLb l
def okLb : List Vl → Bool
  | [] => true
  | x :: l => okVb x && okLb l
end
theorem okLb_iff : ∀ l : List Vl, okLb l = true ↔ ∀ y ∈ l, okVb y = true
  | [] => by simp [okLb]
  | x :: l => by simp [okLb, okLb_iff l]
theorem okVb_iff (v : Vl) : okVb v = true ↔ P.Ok v := by
  induction v using P.Vl_ind with
  | h v ih =>
    obtain ⟨k, n, t, l⟩ := v
    dsimp only at ih
    rw [okVb]
    simp only [Bool.and_eq_true, decide_eq_true_eq, okLb_iff]
    constructor
    · rintro ⟨⟨⟨h1, h2, h3, h4⟩, h5⟩, h6⟩
      exact .mk _ h1 h2 h3 h4 h5 fun y hy => (ih y hy).1 (h6 y hy)
    · intro h
      exact ⟨⟨⟨h.kd, h.okN⟩, h.len⟩, fun y hy => (ih y hy).2 (h.its y hy)⟩
def amqvalue_Check.f (k n : Int) (s : ByteArray) (l : List Vl) (most : Int) : Option Int := if okVb ⟨k, n, s, l⟩ = true then some (chkM most ⟨k, n, s, l⟩) else none
end Go.Proofs.YtekpofpgkokoiaaDoor.M
