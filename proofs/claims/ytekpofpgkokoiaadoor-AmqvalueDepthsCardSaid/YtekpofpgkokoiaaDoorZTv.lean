/- A part of this claim: what its theorem leans on. -/
import Derived.Test.YtekpofpgkokoiaaDoorZKp
set_option linter.unusedVariables false
set_option linter.unusedSimpArgs false
namespace Go.Proofs.YtekpofpgkokoiaaDoor.P
open Go.Proofs.YtekpofpgkokoiaaDoor.M
theorem chkL_zero {m : Nat} {k n : Int} : ∀ l : List Vl, chkL m k n l = 0 ↔ ∀ x ∈ l, (k = 24 → x.kind = n) ∧ chkV m x = 0
  | [] => by simp [chkL]
  | x :: l => by
    rw [chkL]
    by_cases h : k = 24 ∧ x.kind ≠ n
    · rw [if_pos h]
      constructor
      · intro e; exact absurd e (by decide)
      · intro hh; exact absurd ((hh x (.head _)).1 h.1) h.2
    · rw [if_neg h]
      have hx : k = 24 → x.kind = n := fun hk => Decidable.byContradiction fun hn => h ⟨hk, hn⟩
      by_cases h2 : chkV m x = 0
      · rw [if_pos h2, chkL_zero l]
        simp only [List.mem_cons, forall_eq_or_imp]
        exact ⟨fun hh => ⟨⟨hx, h2⟩, hh⟩, fun hh => hh.2⟩
      · rw [if_neg h2]
        exact ⟨fun e => absurd e h2, fun hh => absurd (hh x (.head _)).2 h2⟩
theorem chkV_zero {m : Nat} {v : Vl} : chkV m v = 0 ↔ (1 ≤ v.kind ∧ v.kind ≤ 25) ∧ (v.kind ≤ 21 ∧ checkP v = 0 ∨ 21 < v.kind ∧ m ≠ 0 ∧ shapedP v = true ∧ v.items.length ≤ 1000 ∧ (∀ x ∈ v.items, (v.kind = 24 → x.kind = v.n) ∧ chkV (m - 1) x = 0) ∧ keysP v.kind v.items = 0) := by
  obtain ⟨k, n, t, l⟩ := v
  rw [chkV]
  dsimp only
  by_cases h1 : k < 1 ∨ 25 < k
  · rw [if_pos h1]
    exact ⟨fun e => absurd e (by decide), fun hh => by omega⟩
  rw [if_neg h1]
  by_cases h2 : k ≤ 21
  · rw [if_pos h2]
    exact ⟨fun e => ⟨by omega, .inl ⟨h2, e⟩⟩, fun hh => by rcases hh.2 with h | h; exact h.2; omega⟩
  rw [if_neg h2]
  by_cases h3 : m = 0
  · rw [if_pos h3]
    exact ⟨fun e => absurd e (by decide), fun hh => by rcases hh.2 with h | h; omega; exact absurd h3 h.2.1⟩
  rw [if_neg h3]
  by_cases h4 : shapedP ⟨k, n, t, l⟩ = false
  · rw [if_pos h4]
    exact ⟨fun e => absurd e (by decide), fun hh => by rcases hh.2 with h | h; omega; rw [h4] at h; exact absurd h.2.2.1 (by decide)⟩
  rw [if_neg h4]
  have h4' : shapedP ⟨k, n, t, l⟩ = true := by simpa using h4
  by_cases h5 : 1000 < l.length
  · rw [if_pos h5]
    exact ⟨fun e => absurd e (by decide), fun hh => by rcases hh.2 with h | h; omega; exact absurd h.2.2.2.1 (by omega)⟩
  rw [if_neg h5]
  by_cases h6 : chkL (m - 1) k n l = 0
  · rw [if_pos h6]
    exact ⟨fun e => ⟨by omega, .inr ⟨by omega, h3, h4', by omega, (chkL_zero l).1 h6, e⟩⟩, fun hh => by rcases hh.2 with h | h; omega; exact h.2.2.2.2.2⟩
  · rw [if_neg h6]
    exact ⟨fun e => absurd e h6, fun hh => by rcases hh.2 with h | h; omega; exact absurd ((chkL_zero l).2 h.2.2.2.2.1) h6⟩
theorem chk_mono (v : Vl) : ∀ a b : Nat, a ≤ b → chkV a v = 0 → chkV b v = 0 := by
  induction v using Vl_ind with
  | h v ih =>
    intro a b hab h
    rw [chkV_zero] at h ⊢
    refine ⟨h.1, ?_⟩
    rcases h.2 with h2 | ⟨h1, h2, h3, h4, h5, h6⟩
    · exact .inl h2
    · exact .inr ⟨h1, by omega, h3, h4, fun x hx => ⟨(h5 x hx).1, ih x hx (a - 1) (b - 1) (by omega) (h5 x hx).2⟩, h6⟩
theorem depthL_le {d : Nat} : ∀ l : List Vl, (∀ x ∈ l, depthV x ≤ d) → depthL l ≤ d
  | [], _ => by simp [depthL]
  | x :: l, h => by
    rw [depthL]
    exact Nat.max_le.2 ⟨h x (.head _), depthL_le l fun y hy => h y (.tail _ hy)⟩
theorem depthV_eq (v : Vl) : depthV v = if v.items = [] ∧ (v.kind < 22 ∨ 25 < v.kind) then 0 else depthL v.items + 1 := by
  cases v; rfl
theorem chk_depth (v : Vl) : ∀ m : Nat, chkV m v = 0 → depthV v ≤ m := by
  induction v using Vl_ind with
  | h v ih =>
    intro m h
    rw [chkV_zero] at h
    rw [depthV_eq]
    rcases h.2 with h2 | ⟨h1, h2, h3, h4, h5, h6⟩
    · rw [if_pos ⟨(chk_parts h2.2).2.2.2.1, .inl (by omega)⟩]
      omega
    · rw [if_neg (by rintro ⟨_, h⟩; omega)]
      have := depthL_le v.items fun x hx => ih x hx (m - 1) (h5 x hx).2
      omega
theorem badly_ok {f : Bs → Rd} {s : Bs} {r : Vl × Nat} : badly f s = .ok r ↔ f s = .ok r := by
  unfold badly
  cases f s with
  | error e => simp
  | ok r => simp
structure SzOk (d : Int → Bs → Rd) (c : Ct) (s : Bs) (v : Vl) (n N : Nat) : Prop where
  w : c.width.toNat ≤ s.length
  num : numL (s.take c.width.toNat) = N
  le : c.width.toNat + N ≤ s.length
  ge : c.width.toNat ≤ N
  tot : n = c.width.toNat + N
  count : numL (((s.drop c.width.toNat).take N).take c.width.toNat) ≤ 1000
  even : ¬ (c.kind = 23 ∧ numL (((s.drop c.width.toNat).take N).take c.width.toNat) % 2 ≠ 0)
  body : (c.kind = 24 ∧ ∃ b more x, ((s.drop c.width.toNat).take N).drop c.width.toNat = b :: more ∧ ofO b.toNat = some x ∧ b.toNat ≠ 0 ∧ bodyE (d b.toNat) c.kind x.kind (c.width.toNat + N) (numL (((s.drop c.width.toNat).take N).take c.width.toNat)) more = .ok (v, n)) ∨
    (c.kind ≠ 24 ∧ bodyE (readE d) c.kind 0 (c.width.toNat + N) (numL (((s.drop c.width.toNat).take N).take c.width.toNat)) (((s.drop c.width.toNat).take N).drop c.width.toNat) = .ok (v, n))
end Go.Proofs.YtekpofpgkokoiaaDoor.P
