/- A part of this claim: what its theorem leans on. -/
import Derived.Test.YtekpofpgkokoiaaDoorZTh
set_option linter.unusedVariables false
namespace Go.Proofs.YtekpofpgkokoiaaDoor.M
def GoodR (N : Nat) (r : Rd) : Prop := match r with | .ok (_, n) => n ≤ N | .error e => e ≠ 0
def GoodL (N c : Nat) (r : Except Int (List Vl × Nat)) : Prop := match r with | .ok (l, n) => n ≤ N ∧ l.length = c | .error e => e ≠ 0
theorem badE_ne {e : Int} (h : e ≠ 0) : badE e ≠ 0 := by unfold badE; split <;> omega
theorem shortE_ne {e : Int} (h : e ≠ 0) : shortE e ≠ 0 := by unfold shortE; split <;> omega
theorem getE_good (b : Int) (s : Bs) : GoodR s.length (getE b s) := by
  cases h : getE b s with
  | ok r => obtain ⟨v, n⟩ := r; exact (P.put_get h).1
  | error e =>
    show e ≠ 0
    unfold getE at h
    split at h
    · cases h; decide
    · split at h
      · cases h; decide
      · split at h
        · rename_i e1 hr
          cases h
          unfold rawE at hr
          dsimp only at hr
          split at hr
          · cases hr; decide
          · split at hr
            · split at hr
              · cases hr; decide
              · cases hr
            · split at hr
              · cases hr
              · split at hr <;> cases hr
        · unfold checkE at h
          split at h
          · cases h
          · cases h
            exact badE_ne (by assumption)
theorem seqE_good {f : Bs → Rd} (hf : ∀ s, GoodR s.length (f s)) : ∀ (c : Nat) (s : Bs), GoodL s.length c (seqE f c s)
  | 0, s => ⟨Nat.zero_le _, rfl⟩
  | c + 1, s => by
    have h1 := hf s
    unfold seqE
    cases h : f s with
    | error e => rw [h] at h1; exact h1
    | ok r =>
      obtain ⟨v, k⟩ := r
      rw [h] at h1
      have h1' : k ≤ s.length := h1
      have h2 := seqE_good hf c (s.drop k)
      dsimp only
      cases h3 : seqE f c (s.drop k) with
      | error e => rw [h3] at h2; exact h2
      | ok q =>
        obtain ⟨l, n⟩ := q
        rw [h3] at h2
        have h2' : n ≤ (s.drop k).length ∧ l.length = c := h2
        rw [List.length_drop] at h2'
        exact ⟨by omega, by simp [h2'.2]⟩
theorem readE_good {d : Int → Bs → Rd} (hd : ∀ c s, GoodR s.length (d c s)) (s : Bs) : GoodR s.length (readE d s) := by
  cases s with
  | nil => show (3 : Int) ≠ 0; decide
  | cons b l =>
    have h1 := hd b.toNat l
    have e1 : readE d (b :: l) = match d b.toNat l with | .error e => .error e | .ok (v, k) => .ok (v, k + 1) := rfl
    rw [e1]
    cases h : d b.toNat l with
    | error e => rw [h] at h1; exact h1
    | ok r =>
      obtain ⟨v, k⟩ := r
      rw [h] at h1
      have h1' : k ≤ l.length := h1
      show k + 1 ≤ (b :: l).length
      simp
      omega
theorem badly_good {f : Bs → Rd} (hf : ∀ s, GoodR s.length (f s)) (s : Bs) : GoodR s.length (badly f s) := by
  have h1 := hf s
  unfold badly
  cases h : f s with
  | error e => rw [h] at h1; exact shortE_ne h1
  | ok r => rw [h] at h1; exact h1
theorem bodyE_good {f : Bs → Rd} (hf : ∀ s, GoodR s.length (f s)) (kind n : Int) (size count : Nat) (s : Bs) (N : Nat) (hN : size ≤ N) : GoodR N (bodyE f kind n size count s) := by
  have h1 := seqE_good (badly_good hf) count s
  unfold bodyE
  cases h : seqE (badly f) count s with
  | error e => rw [h] at h1; exact h1
  | ok q =>
    obtain ⟨l, k⟩ := q
    dsimp only
    split
    · show (5 : Int) ≠ 0; decide
    · split
      · assumption
      · exact hN
theorem sizedE_good {d : Int → Bs → Rd} (hd : ∀ c s, GoodR s.length (d c s)) (c : Ct) (s : Bs) : GoodR s.length (sizedE d c s) := by
  unfold sizedE
  dsimp only
  split
  · show (3 : Int) ≠ 0; decide
  · rename_i h1
    split
    · show (3 : Int) ≠ 0; decide
    · rename_i h2
      have hN : c.width.toNat + numL (s.take c.width.toNat) ≤ s.length := by omega
      split
      · show (5 : Int) ≠ 0; decide
      · split
        · show (4 : Int) ≠ 0; decide
        · split
          · show (5 : Int) ≠ 0; decide
          · split
            · split
              · show (5 : Int) ≠ 0; decide
              · split
                · show (8 : Int) ≠ 0; decide
                · split
                  · show (8 : Int) ≠ 0; decide
                  · exact bodyE_good (hd _) _ _ _ _ _ _ hN
            · exact bodyE_good (readE_good hd) _ _ _ _ _ _ hN
theorem descE_good {d : Int → Bs → Rd} (hd : ∀ c s, GoodR s.length (d c s)) (s : Bs) : GoodR s.length (descE d s) := by
  have h1 := seqE_good (readE_good hd) 2 s
  unfold descE
  cases h : seqE (readE d) 2 s with
  | error e => rw [h] at h1; exact h1
  | ok q => rw [h] at h1; exact h1.1
theorem dataE_good : ∀ (m : Nat) (code : Int) (s : Bs), GoodR s.length (dataE m code s)
  | 0, code, s => by
    unfold dataE
    split
    · show (8 : Int) ≠ 0; decide
    · split
      · exact getE_good _ _
      · show (14 : Int) ≠ 0; decide
  | m + 1, code, s => by
    unfold dataE
    split
    · show (8 : Int) ≠ 0; decide
    · split
      · exact getE_good _ _
      · dsimp only
        split
        · exact descE_good (dataE_good m) s
        · split
          · exact Nat.zero_le _
          · exact sizedE_good (dataE_good m) _ s
theorem rdE_good (m : Nat) (s : Bs) : GoodR s.length (rdE m s) := readE_good (dataE_good m) s
end Go.Proofs.YtekpofpgkokoiaaDoor.M
