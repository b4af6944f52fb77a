/- A part of this claim: what its theorem leans on. -/
import Derived.Test.YtekpofpgkokoiaaDoorZKp
set_option linter.unusedVariables false
set_option linter.unusedSimpArgs false
namespace Go.Proofs.YtekpofpgkokoiaaDoor.P
open Go.Proofs.YtekpofpgkokoiaaDoor.M
theorem chkL_zero {m : Nat} {k n : Int} : ∀ l : List Vl, chkL m k n l = 0 ↔ ∀ x ∈ l, (k = 24 → x.kind = n) ∧ chkV m x = 0
  | [] => by simp [chkL]
  | x :: l => by
    rw [chkL]
    by_cases h : k = 24 ∧ x.kind ≠ n
    · rw [if_pos h]
      constructor
      · intro e; exact absurd e (by decide)
      · intro hh; exact absurd ((hh x (.head _)).1 h.1) h.2
    · rw [if_neg h]
      have hx : k = 24 → x.kind = n := fun hk => Decidable.byContradiction fun hn => h ⟨hk, hn⟩
      by_cases h2 : chkV m x = 0
      · rw [if_pos h2, chkL_zero l]
        simp only [List.mem_cons, forall_eq_or_imp]
        exact ⟨fun hh => ⟨⟨hx, h2⟩, hh⟩, fun hh => hh.2⟩
      · rw [if_neg h2]
        exact ⟨fun e => absurd e h2, fun hh => absurd (hh x (.head _)).2 h2⟩
theorem chkV_zero {m : Nat} {v : Vl} : chkV m v = 0 ↔ (1 ≤ v.kind ∧ v.kind ≤ 25) ∧ (v.kind ≤ 21 ∧ checkP v = 0 ∨ 21 < v.kind ∧ m ≠ 0 ∧ shapedP v = true ∧ v.items.length ≤ 1000 ∧ (∀ x ∈ v.items, (v.kind = 24 → x.kind = v.n) ∧ chkV (m - 1) x = 0) ∧ keysP v.kind v.items = 0) := by
  obtain ⟨k, n, t, l⟩ := v
  rw [chkV]
  dsimp only
  by_cases h1 : k < 1 ∨ 25 < k
  · rw [if_pos h1]
    exact ⟨fun e => absurd e (by decide), fun hh => by omega⟩
  rw [if_neg h1]
  by_cases h2 : k ≤ 21
  · rw [if_pos h2]
    exact ⟨fun e => ⟨by omega, .inl ⟨h2, e⟩⟩, fun hh => by rcases hh.2 with h | h; exact h.2; omega⟩
  rw [if_neg h2]
  by_cases h3 : m = 0
  · rw [if_pos h3]
    exact ⟨fun e => absurd e (by decide), fun hh => by rcases hh.2 with h | h; omega; exact absurd h3 h.2.1⟩
  rw [if_neg h3]
  by_cases h4 : shapedP ⟨k, n, t, l⟩ = false
  · rw [if_pos h4]
    exact ⟨fun e => absurd e (by decide), fun hh => by rcases hh.2 with h | h; omega; rw [h4] at h; exact absurd h.2.2.1 (by decide)⟩
  rw [if_neg h4]
  have h4' : shapedP ⟨k, n, t, l⟩ = true := by simpa using h4
  by_cases h5 : 1000 < l.length
  · rw [if_pos h5]
    exact ⟨fun e => absurd e (by decide), fun hh => by rcases hh.2 with h | h; omega; exact absurd h.2.2.2.1 (by omega)⟩
  rw [if_neg h5]
  by_cases h6 : chkL (m - 1) k n l = 0
  · rw [if_pos h6]
    exact ⟨fun e => ⟨by omega, .inr ⟨by omega, h3, h4', by omega, (chkL_zero l).1 h6, e⟩⟩, fun hh => by rcases hh.2 with h | h; omega; exact h.2.2.2.2.2⟩
  · rw [if_neg h6]
    exact ⟨fun e => absurd e h6, fun hh => by rcases hh.2 with h | h; omega; exact absurd ((chkL_zero l).2 h.2.2.2.2.1) h6⟩
theorem depthL_le {d : Nat} : ∀ l : List Vl, (∀ x ∈ l, depthV x ≤ d) → depthL l ≤ d
  | [], _ => by simp [depthL]
  | x :: l, h => by
    rw [depthL]
    exact Nat.max_le.2 ⟨h x (.head _), depthL_le l fun y hy => h y (.tail _ hy)⟩
theorem depthV_eq (v : Vl) : depthV v = if v.items = [] ∧ (v.kind < 22 ∨ 25 < v.kind) then 0 else depthL v.items + 1 := by
  cases v; rfl
theorem chk_depth (v : Vl) : ∀ m : Nat, chkV m v = 0 → depthV v ≤ m := by
  induction v using Vl_ind with
  | h v ih =>
    intro m h
    rw [chkV_zero] at h
    rw [depthV_eq]
    rcases h.2 with h2 | ⟨h1, h2, h3, h4, h5, h6⟩
    · rw [if_pos ⟨(chk_parts h2.2).2.2.2.1, .inl (by omega)⟩]
      omega
    · rw [if_neg (by rintro ⟨_, h⟩; omega)]
      have := depthL_le v.items fun x hx => ih x hx (m - 1) (h5 x hx).2
      omega
theorem put_fits' {v : Vl} {b : Int} (h : checkP v = 0) (hf : fitsP b v = true) : (putP b v).2 = 0 := by
  unfold putP
  rw [if_pos h, if_pos hf]
theorem tab_items : ∀ c ∈ tableL, (c.items = false → 1 ≤ c.kind ∧ c.kind ≤ 21) ∧ (c.items = true → 22 ≤ c.kind ∧ c.kind ≤ 25) ∧ (c.items = true → c.kind ≠ 25 → c.sized = false → c.kind = 22) ∧ (c.code ≠ 0 → c.kind ≠ 25) ∧ (c.items = true → c.sized = true → c.kind ≠ 25 ∧ (c.width = 1 ∨ c.width = 4)) := by decide
theorem tabO {b : Int} {c : Ct} (h : ofO b = some c) : c ∈ tableL ∧ c.code = b ∧ ofC b = c ∧ ofB b = true := by
  obtain ⟨h1, h2⟩ := ofB_of h
  have h3 := ofC_code b h1
  rw [h2] at h3
  exact ⟨List.mem_of_find?_eq_some h, h3, h2, h1⟩
theorem dataE_of {m : Nat} {code : Int} {s : Bs} : dataE m code s = match ofO code with
    | none => .error 8
    | some c => if c.items = false then getE code s else match m with
        | 0 => .error 14
        | m + 1 => if c.kind = 25 then descE (dataE m) s else if c.sized = false then .ok (⟨c.kind, 0, ofBs [], []⟩, 0) else sizedE (dataE m) c s := by
  conv => lhs; unfold dataE
  cases ofO code with
  | none => rfl
  | some c => cases m <;> rfl
theorem seqE_all {f : Bs → Rd} {Q : Vl → Prop} (hf : ∀ s v k, f s = .ok (v, k) → Q v) : ∀ (c : Nat) (s : Bs) (l : List Vl) (n : Nat), seqE f c s = .ok (l, n) → l.length = c ∧ ∀ x ∈ l, Q x
  | 0, s, l, n, h => by
    cases h
    exact ⟨rfl, fun x hx => by cases hx⟩
  | c + 1, s, l, n, h => by
    unfold seqE at h
    cases h1 : f s with
    | error e => rw [h1] at h; cases h
    | ok r =>
      obtain ⟨v, k⟩ := r
      rw [h1] at h
      dsimp only at h
      cases h2 : seqE f c (s.drop k) with
      | error e => rw [h2] at h; cases h
      | ok q =>
        obtain ⟨l2, n2⟩ := q
        rw [h2] at h
        cases h
        obtain ⟨g1, g2⟩ := seqE_all hf c _ _ _ h2
        refine ⟨by simp [g1], fun x hx => ?_⟩
        rcases List.mem_cons.1 hx with rfl | hx
        · exact hf _ _ _ h1
        · exact g2 x hx
def Local (f g : Bs → Rd) : Prop := ∀ s v k, f s = .ok (v, k) → k ≤ s.length ∧ ∀ more, g (s.take k ++ more) = .ok (v, k)
theorem seqE_local {f g : Bs → Rd} (hf : Local f g) : ∀ (c : Nat) (s : Bs) (l : List Vl) (n : Nat), seqE f c s = .ok (l, n) → n ≤ s.length ∧ ∀ more, seqE g c (s.take n ++ more) = .ok (l, n)
  | 0, s, l, n, h => by
    cases h
    exact ⟨Nat.zero_le _, fun _ => rfl⟩
  | c + 1, s, l, n, h => by
    unfold seqE at h
    cases h1 : f s with
    | error e => rw [h1] at h; cases h
    | ok r =>
      obtain ⟨v, k⟩ := r
      rw [h1] at h
      dsimp only at h
      cases h2 : seqE f c (s.drop k) with
      | error e => rw [h2] at h; cases h
      | ok q =>
        obtain ⟨l2, n2⟩ := q
        rw [h2] at h
        cases h
        obtain ⟨a1, a2⟩ := hf _ _ _ h1
        obtain ⟨b1, b2⟩ := seqE_local hf c _ _ _ h2
        rw [List.length_drop] at b1
        refine ⟨by omega, fun more => ?_⟩
        have e1 : s.take (k + n2) ++ more = s.take k ++ ((s.drop k).take n2 ++ more) := by
          rw [List.take_add, List.append_assoc]
        have hl : (s.take k).length = k := by rw [List.length_take]; omega
        unfold seqE
        rw [e1, a2]
        dsimp only
        rw [List.drop_left' hl, b2]
theorem seqE_self {f g : Bs → Rd} (hf : Local f g) {c : Nat} {s : Bs} {l : List Vl} {n : Nat} (h : seqE f c s = .ok (l, n)) : seqE g c s = .ok (l, n) := by
  have := (seqE_local hf c s l n h).2 (s.drop n)
  rwa [List.take_append_drop] at this
def Short (f : Bs → Rd) : Prop := ∀ s v k, f s = .ok (v, k) → ∀ j, j < k → f (s.take j) = .error 3
theorem seqE_short {f : Bs → Rd} (hf : Local f f) (hs : Short f) : ∀ (c : Nat) (s : Bs) (l : List Vl) (n : Nat), seqE f c s = .ok (l, n) → ∀ j, j < n → seqE f c (s.take j) = .error 3
  | 0, s, l, n, h, j, hj => by cases h; omega
  | c + 1, s, l, n, h, j, hj => by
    unfold seqE at h
    cases h1 : f s with
    | error e => rw [h1] at h; cases h
    | ok r =>
      obtain ⟨v, k⟩ := r
      rw [h1] at h
      dsimp only at h
      cases h2 : seqE f c (s.drop k) with
      | error e => rw [h2] at h; cases h
      | ok q =>
        obtain ⟨l2, n2⟩ := q
        rw [h2] at h
        cases h
        obtain ⟨a1, a2⟩ := hf _ _ _ h1
        unfold seqE
        by_cases hjk : j < k
        · rw [hs _ _ _ h1 j hjk]
        · have e1 : s.take j = s.take k ++ (s.drop k).take (j - k) := by
            rw [← List.take_add]
            congr 1
            omega
          have hl : (s.take k).length = k := by rw [List.length_take]; omega
          rw [e1, a2]
          dsimp only
          rw [List.drop_left' hl, seqE_short hf hs c _ _ _ h2 (j - k) (by omega)]
theorem badly_ok {f : Bs → Rd} {s : Bs} {r : Vl × Nat} : badly f s = .ok r ↔ f s = .ok r := by
  unfold badly
  cases f s with
  | error e => simp
  | ok r => simp
theorem badly_local {f g : Bs → Rd} (h : Local f g) : Local (badly f) (badly g) := fun s v k e => ⟨(h s v k (badly_ok.1 e)).1, fun more => badly_ok.2 ((h s v k (badly_ok.1 e)).2 more)⟩
theorem readE_ok {d : Int → Bs → Rd} {s : Bs} {v : Vl} {n : Nat} (h : readE d s = .ok (v, n)) : ∃ b t k, s = b :: t ∧ d b.toNat t = .ok (v, k) ∧ n = k + 1 := by
  cases s with
  | nil => cases h
  | cons b t =>
    have h' : (match d b.toNat t with | .error e => (.error e : Rd) | .ok (v, k) => .ok (v, k + 1)) = .ok (v, n) := h
    cases hd : d b.toNat t with
    | error e => rw [hd] at h'; cases h'
    | ok r =>
      obtain ⟨v2, k⟩ := r
      rw [hd] at h'
      cases h'
      exact ⟨b, t, k, rfl, hd, rfl⟩
theorem readE_mk {d : Int → Bs → Rd} {b : UInt8} {t : Bs} {v : Vl} {k : Nat} (h : d b.toNat t = .ok (v, k)) : readE d (b :: t) = .ok (v, k + 1) := by
  show (match d b.toNat t with | .error e => (.error e : Rd) | .ok (v, k) => .ok (v, k + 1)) = _
  rw [h]
theorem readE_local {d d' : Int → Bs → Rd} (h : ∀ c, Local (d c) (d' c)) : Local (readE d) (readE d') := by
  intro s v n e
  obtain ⟨b, t, k, rfl, hd, rfl⟩ := readE_ok e
  obtain ⟨h1, h2⟩ := h _ _ _ _ hd
  exact ⟨by simp; omega, fun more => by rw [List.take_succ_cons, List.cons_append]; exact readE_mk (h2 more)⟩
theorem readE_short {d : Int → Bs → Rd} (h : ∀ c, Short (d c)) : Short (readE d) := by
  intro s v n e j hj
  obtain ⟨b, t, k, rfl, hd, rfl⟩ := readE_ok e
  cases j with
  | zero => rfl
  | succ j =>
    rw [List.take_succ_cons]
    show (match d b.toNat (t.take j) with | .error e => (.error e : Rd) | .ok (v, k) => .ok (v, k + 1)) = _
    rw [h _ _ _ _ hd j (by omega)]
theorem bodyE_ok {f : Bs → Rd} {kind n : Int} {size count : Nat} {s : Bs} {v : Vl} {m : Nat} (h : bodyE f kind n size count s = .ok (v, m)) :
    ∃ l, seqE (badly f) count s = .ok (l, s.length) ∧ keysP kind l = 0 ∧ v = ⟨kind, n, ofBs [], l⟩ ∧ m = size := by
  unfold bodyE at h
  cases h1 : seqE (badly f) count s with
  | error e => rw [h1] at h; cases h
  | ok r =>
    obtain ⟨l, k⟩ := r
    rw [h1] at h
    dsimp only at h
    split at h
    · cases h
    · rename_i h2
      split at h
      · cases h
      · rename_i h3
        cases h
        exact ⟨l, by rw [show s.length = k by omega], by simpa using h3, rfl, rfl⟩
theorem bodyE_mk {f : Bs → Rd} {kind n : Int} {size count : Nat} {s : Bs} {l : List Vl} (h : seqE (badly f) count s = .ok (l, s.length)) (hk : keysP kind l = 0) :
    bodyE f kind n size count s = .ok (⟨kind, n, ofBs [], l⟩, size) := by
  unfold bodyE
  rw [h]
  dsimp only
  rw [if_neg (by simp), if_neg (by simp [hk])]
structure SzOk (d : Int → Bs → Rd) (c : Ct) (s : Bs) (v : Vl) (n N : Nat) : Prop where
  w : c.width.toNat ≤ s.length
  num : numL (s.take c.width.toNat) = N
  le : c.width.toNat + N ≤ s.length
  ge : c.width.toNat ≤ N
  tot : n = c.width.toNat + N
  count : numL (((s.drop c.width.toNat).take N).take c.width.toNat) ≤ 1000
  even : ¬ (c.kind = 23 ∧ numL (((s.drop c.width.toNat).take N).take c.width.toNat) % 2 ≠ 0)
  body : (c.kind = 24 ∧ ∃ b more x, ((s.drop c.width.toNat).take N).drop c.width.toNat = b :: more ∧ ofO b.toNat = some x ∧ b.toNat ≠ 0 ∧ bodyE (d b.toNat) c.kind x.kind (c.width.toNat + N) (numL (((s.drop c.width.toNat).take N).take c.width.toNat)) more = .ok (v, n)) ∨
    (c.kind ≠ 24 ∧ bodyE (readE d) c.kind 0 (c.width.toNat + N) (numL (((s.drop c.width.toNat).take N).take c.width.toNat)) (((s.drop c.width.toNat).take N).drop c.width.toNat) = .ok (v, n))
theorem nil_size : (ofBs []).size = 0 := rfl
theorem body_n {f : Bs → Rd} {kind n : Int} {size count : Nat} {s : Bs} {v : Vl} {m : Nat} (h : bodyE f kind n size count s = .ok (v, m)) : m = size := by
  obtain ⟨l, h1, h2, h3, h4⟩ := bodyE_ok h
  exact h4
theorem sizedE_ok {d : Int → Bs → Rd} {c : Ct} {s : Bs} {v : Vl} {n : Nat} (h : sizedE d c s = .ok (v, n)) : ∃ N, SzOk d c s v n N := by
  unfold sizedE at h
  dsimp only at h
  split at h
  · cases h
  rename_i h1
  split at h
  · cases h
  rename_i h2
  split at h
  · cases h
  rename_i h3
  split at h
  · cases h
  rename_i h4
  split at h
  · cases h
  rename_i h5
  split at h
  · rename_i h6
    split at h
    · cases h
    · rename_i b more hb
      split at h
      · cases h
      · rename_i x hx
        split at h
        · cases h
        · rename_i h7
          exact ⟨_, by omega, rfl, by omega, by omega, body_n h, by omega, h5, .inl ⟨h6, b, more, x, hb, hx, h7, h⟩⟩
  · rename_i h6
    exact ⟨_, by omega, rfl, by omega, by omega, body_n h, by omega, h5, .inr ⟨h6, h⟩⟩
theorem sizedE_mk {d : Int → Bs → Rd} {c : Ct} {s : Bs} {v : Vl} {n N : Nat} (h : SzOk d c s v n N) : sizedE d c s = .ok (v, n) := by
  obtain ⟨h1, hN, h2, h3, h4, h5, h6, h7⟩ := h
  unfold sizedE
  dsimp only
  rw [hN, if_neg (by omega), if_neg (by omega), if_neg (by omega), if_neg (by omega), if_neg h6]
  rcases h7 with ⟨h8, b, more, x, hb, hx, h9, h⟩ | ⟨h8, h⟩
  · rw [if_pos h8, hb]
    dsimp only
    rw [hx]
    dsimp only
    rw [if_neg h9]
    exact h
  · rw [if_neg h8]
    exact h
theorem bodyE_self {f g : Bs → Rd} (hf : Local f g) {kind n : Int} {size count : Nat} {s : Bs} {v : Vl} {m : Nat} (h : bodyE f kind n size count s = .ok (v, m)) : bodyE g kind n size count s = .ok (v, m) := by
  obtain ⟨l, h1, h2, rfl, rfl⟩ := bodyE_ok h
  exact bodyE_mk (seqE_self (badly_local hf) h1) h2
theorem sizedE_local {d d' : Int → Bs → Rd} (c : Ct) (h : ∀ b, Local (d b) (d' b)) : Local (sizedE d c) (sizedE d' c) := by
  intro s v n e
  obtain ⟨N, h1, hN, h2, h3, h4, h5, h6, h7⟩ := sizedE_ok e
  refine ⟨by omega, fun more => sizedE_mk (N := N) ?_⟩
  have hl : (s.take n).length = n := by rw [List.length_take]; omega
  have e1 : (s.take n ++ more).take c.width.toNat = s.take c.width.toNat := by
    rw [List.take_append_of_le_length (by omega), List.take_take, Nat.min_eq_left (by omega)]
  have e2 : ((s.take n ++ more).drop c.width.toNat).take N = (s.drop c.width.toNat).take N := by
    rw [List.drop_append_of_le_length (by omega), List.take_append_of_le_length (by rw [List.length_drop]; omega), List.drop_take, List.take_take, Nat.min_eq_left (by omega)]
  refine ⟨by rw [List.length_append]; omega, by rw [e1]; exact hN, by rw [List.length_append]; omega, h3, h4, by rw [e2]; exact h5, by rw [e2]; exact h6, ?_⟩
  rw [e2]
  rcases h7 with ⟨h8, b, mo, x, hb, hx, h9, hh⟩ | ⟨h8, hh⟩
  · exact .inl ⟨h8, b, mo, x, hb, hx, h9, bodyE_self (h _) hh⟩
  · exact .inr ⟨h8, bodyE_self (readE_local h) hh⟩
theorem sizedE_short {d : Int → Bs → Rd} (c : Ct) : Short (sizedE d c) := by
  intro s v n e j hj
  obtain ⟨N, h1, hN, h2, h3, h4, h5, h6, h7⟩ := sizedE_ok e
  have hl : (s.take j).length = j := by rw [List.length_take]; omega
  unfold sizedE
  dsimp only
  rw [hl]
  by_cases hw : j < c.width.toNat
  · rw [if_pos hw]
  · rw [if_neg hw]
    have e1 : (s.take j).take c.width.toNat = s.take c.width.toNat := by
      rw [List.take_take, Nat.min_eq_left (by omega)]
    rw [e1, hN, if_pos (by omega)]
theorem descE_ok {d : Int → Bs → Rd} {s : Bs} {v : Vl} {n : Nat} (h : descE d s = .ok (v, n)) : ∃ l, seqE (readE d) 2 s = .ok (l, n) ∧ v = ⟨25, 0, ofBs [], l⟩ := by
  unfold descE at h
  cases h1 : seqE (readE d) 2 s with
  | error e => rw [h1] at h; cases h
  | ok r =>
    obtain ⟨l, k⟩ := r
    rw [h1] at h
    cases h
    exact ⟨l, rfl, rfl⟩
theorem getE_local (code : Int) : Local (getE code) (getE code) := by
  intro s v n e
  obtain ⟨h1, h2, h3, h4, h5, h6, _⟩ := put_get e
  refine ⟨h1, fun more => ?_⟩
  have hg := get_put v code (put_fits' h2 h3) h5 h6 more
  rw [h4] at hg
  rwa [show (s.take n).length = n by rw [List.length_take]; omega] at hg
theorem getE_short (code : Int) : Short (getE code) := by
  intro s v n e j hj
  obtain ⟨h1, h2, h3, h4, h5, h6, _⟩ := put_get e
  have hl : (s.take n).length = n := by rw [List.length_take]; omega
  have hg := get_short v code (put_fits' h2 h3) h5 h6 j (by rw [h4, hl]; exact hj)
  rwa [h4, List.take_take, Nat.min_eq_left (by omega)] at hg
theorem dataE_local : ∀ (m m' : Nat), m ≤ m' → ∀ code, Local (dataE m code) (dataE m' code) := by
  intro m
  induction m with
  | zero =>
    intro m' hm code s v n e
    rw [dataE_of] at e
    cases ho : ofO code with
    | none => rw [ho] at e; cases e
    | some c =>
      rw [ho] at e
      dsimp only at e
      by_cases hi : c.items = false
      · rw [if_pos hi] at e
        obtain ⟨h1, h2⟩ := getE_local code s v n e
        exact ⟨h1, fun more => by rw [dataE_of, ho]; dsimp only; rw [if_pos hi]; exact h2 more⟩
      · rw [if_neg hi] at e
        cases e
  | succ m ih =>
    intro m' hm code s v n e
    obtain ⟨q, rfl⟩ : ∃ q, m' = q + 1 := ⟨m' - 1, by omega⟩
    rw [dataE_of] at e
    cases ho : ofO code with
    | none => rw [ho] at e; cases e
    | some c =>
      rw [ho] at e
      dsimp only at e
      by_cases hi : c.items = false
      · rw [if_pos hi] at e
        obtain ⟨h1, h2⟩ := getE_local code s v n e
        exact ⟨h1, fun more => by rw [dataE_of, ho]; dsimp only; rw [if_pos hi]; exact h2 more⟩
      · rw [if_neg hi] at e
        have ihl := fun b => ih q (by omega) b
        have out : ∀ t, dataE (q + 1) code t = if c.kind = 25 then descE (dataE q) t else if c.sized = false then .ok (⟨c.kind, 0, ofBs [], []⟩, 0) else sizedE (dataE q) c t := by
          intro t
          rw [dataE_of, ho]
          dsimp only
          rw [if_neg hi]
        by_cases hk : c.kind = 25
        · rw [if_pos hk] at e
          obtain ⟨l, h1, rfl⟩ := descE_ok e
          obtain ⟨h2, h3⟩ := seqE_local (readE_local ihl) 2 s l n h1
          refine ⟨h2, fun more => ?_⟩
          rw [out, if_pos hk]
          unfold descE
          rw [h3]
        · rw [if_neg hk] at e
          by_cases hs : c.sized = false
          · rw [if_pos hs] at e
            cases e
            exact ⟨Nat.zero_le _, fun more => by rw [out, if_neg hk, if_pos hs]⟩
          · rw [if_neg hs] at e
            obtain ⟨h1, h2⟩ := sizedE_local c ihl s v n e
            exact ⟨h1, fun more => by rw [out, if_neg hk, if_neg hs]; exact h2 more⟩
theorem dataE_short : ∀ (m : Nat) (code : Int), Short (dataE m code) := by
  intro m
  induction m with
  | zero =>
    intro code s v n e j hj
    rw [dataE_of] at e ⊢
    cases ho : ofO code with
    | none => rw [ho] at e; cases e
    | some c =>
      rw [ho] at e
      dsimp only at e ⊢
      by_cases hi : c.items = false
      · rw [if_pos hi] at e ⊢
        exact getE_short code s v n e j hj
      · rw [if_neg hi] at e
        cases e
  | succ m ih =>
    intro code s v n e j hj
    rw [dataE_of] at e ⊢
    cases ho : ofO code with
    | none => rw [ho] at e; cases e
    | some c =>
      rw [ho] at e
      dsimp only at e ⊢
      by_cases hi : c.items = false
      · rw [if_pos hi] at e ⊢
        exact getE_short code s v n e j hj
      · rw [if_neg hi] at e ⊢
        by_cases hk : c.kind = 25
        · rw [if_pos hk] at e ⊢
          obtain ⟨l, h1, rfl⟩ := descE_ok e
          unfold descE
          rw [seqE_short (readE_local fun b => dataE_local m m (Nat.le_refl _) b) (readE_short ih) 2 s l n h1 j hj]
        · rw [if_neg hk] at e ⊢
          by_cases hs : c.sized = false
          · rw [if_pos hs] at e
            cases e
            omega
          · rw [if_neg hs] at e ⊢
            exact sizedE_short c s v n e j hj
theorem dataE_valid : ∀ (m : Nat) (code : Int) (s : Bs) (v : Vl) (n : Nat), dataE m code s = .ok (v, n) → chkV m v = 0 ∧ v.kind = (ofC code).kind := by
  intro m
  induction m with
  | zero =>
    intro code s v n e
    rw [dataE_of] at e
    cases ho : ofO code with
    | none => rw [ho] at e; cases e
    | some c =>
      rw [ho] at e
      obtain ⟨t1, t2, t3, t4⟩ := tabO ho
      dsimp only at e
      by_cases hi : c.items = false
      · rw [if_pos hi] at e
        obtain ⟨h1, h2, h3, h4, h5, h6, h7, h8, h9, _⟩ := put_get e
        have hk := (tab_items c t1).1 hi
        rw [t3] at h9
        exact ⟨chkV_zero.2 ⟨by omega, .inl ⟨by omega, h2⟩⟩, by rw [t3]; exact h9⟩
      · rw [if_neg hi] at e
        cases e
  | succ m ih =>
    intro code s v n e
    rw [dataE_of] at e
    cases ho : ofO code with
    | none => rw [ho] at e; cases e
    | some c =>
      rw [ho] at e
      obtain ⟨t1, t2, t3, t4⟩ := tabO ho
      rw [t3]
      dsimp only at e
      by_cases hi : c.items = false
      · rw [if_pos hi] at e
        obtain ⟨h1, h2, h3, h4, h5, h6, h7, h8, h9, _⟩ := put_get e
        have hk := (tab_items c t1).1 hi
        rw [t3] at h9
        exact ⟨chkV_zero.2 ⟨by omega, .inl ⟨by omega, h2⟩⟩, h9⟩
      · rw [if_neg hi] at e
        have hi' : c.items = true := by simpa using hi
        obtain ⟨k1, k2, k3, k4, k5⟩ := tab_items c t1
        have hrd : ∀ s v k, readE (dataE m) s = .ok (v, k) → chkV m v = 0 := by
          intro s v k h
          obtain ⟨b, t, q, rfl, hd, rfl⟩ := readE_ok h
          exact (ih _ _ _ _ hd).1
        by_cases hk : c.kind = 25
        · rw [if_pos hk] at e
          obtain ⟨l, h1, rfl⟩ := descE_ok e
          obtain ⟨g1, g2⟩ := seqE_all hrd 2 s l n h1
          refine ⟨chkV_zero.2 ⟨by dsimp only; omega, .inr ⟨by dsimp only; omega, by omega, by simp [shapedP, g1, nil_size], by dsimp only; omega, fun x hx => ⟨fun h => absurd h (by dsimp only; omega), g2 x hx⟩, by unfold keysP; rw [if_neg (by simp)]⟩⟩, hk.symm⟩
        · rw [if_neg hk] at e
          by_cases hs : c.sized = false
          · rw [if_pos hs] at e
            cases e
            have h22 := k3 hi' hk hs
            refine ⟨chkV_zero.2 ⟨by dsimp only; omega, .inr ⟨by dsimp only; omega, by omega, by simp [shapedP, h22, nil_size], by simp, fun x hx => (by cases hx), by unfold keysP; rw [if_neg (by rw [h22]; simp)]⟩⟩, rfl⟩
          · rw [if_neg hs] at e
            have hr := k2 hi'
            obtain ⟨N, h1, hN, h2, h3, h4, h5, h6, h7⟩ := sizedE_ok e
            rcases h7 with ⟨h8, b, mo, x, hb, hx, h9, hh⟩ | ⟨h8, hh⟩
            · obtain ⟨l, g1, g2, rfl, _⟩ := bodyE_ok hh
              obtain ⟨x1, x2, x3, x4⟩ := tabO hx
              obtain ⟨q1, q2⟩ := seqE_all (Q := fun v => chkV m v = 0 ∧ v.kind = x.kind) (fun s v k h => by have := ih _ _ _ _ (badly_ok.1 h); rw [x3] at this; exact this) _ _ _ _ g1
              obtain ⟨y1, y2, y3, y4, y5⟩ := tab_items x x1
              have hxk : 1 ≤ x.kind ∧ x.kind ≤ 24 := by
                have := y4 (by omega)
                cases hxi : x.items with
                | false => have := y1 hxi; omega
                | true => have := y2 hxi; omega
              refine ⟨chkV_zero.2 ⟨by dsimp only; omega, .inr ⟨by dsimp only; omega, by omega, by simp [shapedP, h8, nil_size]; omega, by dsimp only; omega, fun y hy => ⟨fun _ => (q2 y hy).2, (q2 y hy).1⟩, g2⟩⟩, rfl⟩
            · obtain ⟨l, g1, g2, rfl, _⟩ := bodyE_ok hh
              obtain ⟨q1, q2⟩ := seqE_all (Q := fun v => chkV m v = 0) (fun s v k h => hrd s v k (badly_ok.1 h)) _ _ _ _ g1
              refine ⟨chkV_zero.2 ⟨by dsimp only; omega, .inr ⟨by dsimp only; omega, by omega, ?_, by dsimp only; omega, fun y hy => ⟨fun h => absurd h h8, q2 y hy⟩, g2⟩⟩, rfl⟩
              unfold shapedP
              dsimp only
              rw [if_neg h8, if_neg hk]
              simp only [ofBs_size, List.length_nil, decide_true, Bool.true_and]
              split
              · rename_i h23
                rw [decide_eq_true_eq, q1]
                exact Decidable.byContradiction fun hne => h6 ⟨h23, hne⟩
              · rfl
theorem rdE_local (m m' : Nat) (h : m ≤ m') : Local (rdE m) (rdE m') := readE_local fun b => dataE_local m m' h b
theorem rdE_short (m : Nat) : Short (rdE m) := readE_short fun b => dataE_short m b
theorem rdE_valid {m : Nat} {s : Bs} {v : Vl} {n : Nat} (h : rdE m s = .ok (v, n)) : chkV m v = 0 ∧ 1 ≤ n ∧ n ≤ s.length := by
  obtain ⟨h1, _⟩ := rdE_local m m (Nat.le_refl _) s v n h
  obtain ⟨b, t, k, rfl, hd, rfl⟩ := readE_ok h
  exact ⟨(dataE_valid m _ _ _ _ hd).1, by omega, h1⟩
end Go.Proofs.YtekpofpgkokoiaaDoor.P
