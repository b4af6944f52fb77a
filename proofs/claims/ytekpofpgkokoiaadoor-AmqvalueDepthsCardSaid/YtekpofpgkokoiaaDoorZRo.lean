/- A part of this claim: what its theorem leans on. -/
import Derived.Test.YtekpofpgkokoiaaDoorZRp
import Derived.Test.YtekpofpgkokoiaaDoorZKp
set_option linter.unusedVariables false
namespace Go.Proofs.YtekpofpgkokoiaaDoor.M
def OkR (r : Rd) : Prop := match r with | .ok (v, _) => P.Ok v | .error _ => True
theorem tab_kind : ∀ c ∈ tableL, 0 ≤ c.kind ∧ c.kind ≤ 25 := by decide
theorem of_kind {b : Int} {c : Ct} (h : ofO b = some c) : 0 ≤ c.kind ∧ c.kind ≤ 25 := tab_kind c (List.mem_of_find?_eq_some h)
theorem getE_ok (b : Int) (s : Bs) (hs : s.length ≤ 140737488351232) : OkR (getE b s) := by
  cases h : getE b s with
  | error e => trivial
  | ok r =>
    obtain ⟨v, n⟩ := r
    obtain ⟨h1, h2, h3, h4, h5, h6, h7, h8, h9, h10, h11⟩ := P.put_get h
    have hk : 0 ≤ v.kind ∧ v.kind ≤ 25 := by
      rw [h9]
      unfold ofB at h10
      cases ho : ofO b with
      | none => rw [ho] at h10; cases h10
      | some c => have := of_kind ho; unfold ofC; rw [ho]; exact this
    exact P.Ok.mk v ⟨by omega, by omega⟩ h5 h6 (by omega) (by rw [h7]; simp) (by rw [h7]; intro y hy; cases hy)
theorem seqE_okR {f : Bs → Rd} (hf : ∀ s : Bs, s.length ≤ 140737488351232 → OkR (f s)) : ∀ (c : Nat) (s : Bs), s.length ≤ 140737488351232 → ∀ l n, seqE f c s = .ok (l, n) → ∀ y ∈ l, P.Ok y
  | 0, s, hs, l, n, h => by
    cases h
    intro y hy
    cases hy
  | c + 1, s, hs, l, n, h => by
    have h1 := hf s hs
    unfold seqE at h
    cases h2 : f s with
    | error e => rw [h2] at h; cases h
    | ok r =>
      obtain ⟨v, k⟩ := r
      rw [h2] at h h1
      dsimp only at h
      cases h3 : seqE f c (s.drop k) with
      | error e => rw [h3] at h; cases h
      | ok q =>
        obtain ⟨l2, n2⟩ := q
        rw [h3] at h
        cases h
        intro y hy
        rcases List.mem_cons.1 hy with rfl | hy
        · exact h1
        · exact seqE_okR hf c _ (by rw [List.length_drop]; omega) _ _ h3 y hy
theorem readE_okR {d : Int → Bs → Rd} (hd : ∀ c (s : Bs), s.length ≤ 140737488351232 → OkR (d c s)) (s : Bs) (hs : s.length ≤ 140737488351232) : OkR (readE d s) := by
  cases s with
  | nil => trivial
  | cons b l =>
    have h1 := hd b.toNat l (by simp at hs; omega)
    have e1 : readE d (b :: l) = match d b.toNat l with | .error e => .error e | .ok (v, k) => .ok (v, k + 1) := rfl
    rw [e1]
    cases h : d b.toNat l with
    | error e => trivial
    | ok r => rw [h] at h1; exact h1
theorem badly_okR {f : Bs → Rd} (hf : ∀ s : Bs, s.length ≤ 140737488351232 → OkR (f s)) (s : Bs) (hs : s.length ≤ 140737488351232) : OkR (badly f s) := by
  have h1 := hf s hs
  unfold badly
  cases h : f s with
  | error e => trivial
  | ok r => rw [h] at h1; exact h1
theorem body_Ok {f : Bs → Rd} (hf : ∀ s : Bs, s.length ≤ 140737488351232 → OkR (f s)) {kind n : Int} {c : Nat} {s : Bs} {l : List Vl} {k : Nat} (hk : 0 ≤ kind ∧ kind ≤ 25) (hn : 0 ≤ n ∧ n ≤ 25) (hc : l.length ≤ 1000000000) (hs : s.length ≤ 140737488351232) (h : seqE f c s = .ok (l, k)) : P.Ok ⟨kind, n, ofBs [], l⟩ :=
  P.Ok.mk _ ⟨by show -9223372036854775808 ≤ kind; omega, by show kind ≤ 9223372036854775807; omega⟩ hn.1 (by show n < 18446744073709551616; omega) (by show (0 : Nat) ≤ _; omega) hc (seqE_okR hf c s hs l k h)
theorem bodyE_okR {f : Bs → Rd} (hf : ∀ s : Bs, s.length ≤ 140737488351232 → OkR (f s)) (hg : ∀ s, GoodR s.length (f s)) (kind n : Int) (size count : Nat) (s : Bs) (hk : 0 ≤ kind ∧ kind ≤ 25) (hn : 0 ≤ n ∧ n ≤ 25) (hc : count ≤ 1000) (hs : s.length ≤ 140737488351232) : OkR (bodyE f kind n size count s) := by
  have h1 := seqE_good (badly_good hg) count s
  unfold bodyE
  cases h : seqE (badly f) count s with
  | error e => trivial
  | ok q =>
    obtain ⟨l, k⟩ := q
    rw [h] at h1
    dsimp only
    split
    · trivial
    · split
      · trivial
      · exact body_Ok (badly_okR hf) hk hn (by have := h1.2; omega) hs h
theorem sizedE_okR {d : Int → Bs → Rd} (hd : ∀ c (s : Bs), s.length ≤ 140737488351232 → OkR (d c s)) (hg : ∀ c s, GoodR s.length (d c s)) (c : Ct) (hc : 0 ≤ c.kind ∧ c.kind ≤ 25) (s : Bs) (hs : s.length ≤ 140737488351232) : OkR (sizedE d c s) := by
  unfold sizedE
  dsimp only
  split
  · trivial
  · split
    · trivial
    · split
      · trivial
      · split
        · trivial
        · rename_i hct
          have hle : (((s.drop c.width.toNat).take (numL (s.take c.width.toNat))).drop c.width.toNat).length ≤ 140737488351232 := by
            rw [List.length_drop, List.length_take, List.length_drop]
            omega
          split
          · trivial
          · split
            · split
              · trivial
              · rename_i b more hm
                rw [hm] at hle
                split
                · trivial
                · rename_i x hx
                  split
                  · trivial
                  · exact bodyE_okR (hd _) (hg _) _ _ _ _ _ hc (of_kind hx) (by omega) (by simp at hle; omega)
            · exact bodyE_okR (readE_okR hd) (readE_good hg) _ _ _ _ _ hc ⟨by omega, by omega⟩ (by omega) hle
theorem descE_okR {d : Int → Bs → Rd} (hd : ∀ c (s : Bs), s.length ≤ 140737488351232 → OkR (d c s)) (hg : ∀ c s, GoodR s.length (d c s)) (s : Bs) (hs : s.length ≤ 140737488351232) : OkR (descE d s) := by
  have h1 := seqE_good (readE_good hg) 2 s
  unfold descE
  cases h : seqE (readE d) 2 s with
  | error e => trivial
  | ok q =>
    obtain ⟨l, k⟩ := q
    rw [h] at h1
    exact body_Ok (readE_okR hd) ⟨by omega, by omega⟩ ⟨by omega, by omega⟩ (by have := h1.2; omega) hs h
theorem dataE_okR : ∀ (m : Nat) (code : Int) (s : Bs), s.length ≤ 140737488351232 → OkR (dataE m code s)
  | 0, code, s, hs => by
    unfold dataE
    split
    · trivial
    · split
      · exact getE_ok _ _ hs
      · trivial
  | m + 1, code, s, hs => by
    unfold dataE
    split
    · trivial
    · rename_i c hc
      split
      · exact getE_ok _ _ hs
      · dsimp only
        split
        · exact descE_okR (dataE_okR m) (dataE_good m) s hs
        · split
          · exact P.Ok.mk _ ⟨by show -9223372036854775808 ≤ c.kind; have := of_kind hc; omega, by show c.kind ≤ 9223372036854775807; have := of_kind hc; omega⟩ (by show (0 : Int) ≤ 0; omega) (by show (0 : Int) < _; omega) (by show (0 : Nat) ≤ _; omega) (by show (0 : Nat) ≤ _; omega) (by intro y hy; cases hy)
          · exact sizedE_okR (dataE_okR m) (dataE_good m) c (of_kind hc) s hs
end Go.Proofs.YtekpofpgkokoiaaDoor.M
