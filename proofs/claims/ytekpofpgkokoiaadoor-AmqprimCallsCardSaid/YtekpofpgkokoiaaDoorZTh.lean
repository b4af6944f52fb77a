/- A part of this claim: what its theorem leans on. -/
import Derived.Test.YtekpofpgkokoiaaDoorZH1
import Derived.KernelRfl
set_option linter.unusedVariables false
namespace Go.Proofs.YtekpofpgkokoiaaDoor.M
abbrev Bs := List UInt8
def ofBs (l : Bs) : ByteArray := ⟨l.toArray⟩
def Vl.tx (v : Vl) : Bs := v.text.data.toList
def numL (l : Bs) : Nat := l.foldl (fun a b => a * 256 + b.toNat) 0
abbrev Rd := Except Int (Vl × Nat)
def widenP (c : Ct) (n : Nat) : Nat := if bitsS c.kind = true ∧ 0 < c.width ∧ 2 ^ (8 * c.width.toNat - 1) ≤ n then n + (2 ^ 64 - 2 ^ (8 * c.width.toNat)) else n
def rawE (c : Ct) (s : Bs) : Rd :=
  let w := c.width.toNat
  if s.length < w then .error 3
  else if c.sized = true then (if s.length - w < numL (s.take w) then .error 3 else .ok (⟨c.kind, 0, ofBs ((s.drop w).take (numL (s.take w))), []⟩, w + numL (s.take w)))
  else if c.width = 16 then .ok (⟨c.kind, 0, ofBs (s.take 16), []⟩, 16)
  else if c.code = 0x41 then .ok (⟨c.kind, 1, ofBs [], []⟩, 0)
  else .ok (⟨c.kind, widenP c (numL (s.take w)), ofBs [], []⟩, w)
def badE (e : Int) : Int := if e = 2 then 5 else e
def checkE (v : Vl) (n : Nat) : Rd := if checkP v = 0 then .ok (v, n) else .error (badE (checkP v))
def getE (code : Int) (s : Bs) : Rd :=
  match ofO code with
  | none => .error 8
  | some c => if c.items = true then .error 8 else
    match rawE c s with
    | .error e => .error e
    | .ok (v, n) => checkE v n
mutual
def sameV : Vl → Vl → Bool
  | ⟨k, n, t, l⟩, ⟨k', n', t', l'⟩ => decide (k = k') && decide (n = n') && decide (t = t') && sameL l l'
def sameL : List Vl → List Vl → Bool
  | [], [] => true
  | x :: l, y :: l' => sameV x y && sameL l l'
  | _, _ => false
end
end Go.Proofs.YtekpofpgkokoiaaDoor.M
set_option linter.unusedVariables false
set_option linter.unusedSimpArgs false
namespace Go.Proofs.YtekpofpgkokoiaaDoor.P
open Go.Proofs.YtekpofpgkokoiaaDoor.M
theorem codes_none (k : Int) (h : ¬ (0 ≤ k ∧ k ≤ 25)) : codesL k = [] := by
  unfold codesL
  split
  · rfl
  · rw [List.getD_eq_getElem?_getD, List.getElem?_eq_none (show codesT.length ≤ k.toNat by show 26 ≤ k.toNat; omega)]
    rfl
theorem ofC_code (code : Int) (h : ofB code = true) : (ofC code).code = code := by
  cases ho : ofO code with
  | none => unfold ofB at h; rw [ho] at h; cases h
  | some c =>
    have hC : ofC code = c := by unfold ofC; rw [ho]; rfl
    rw [hC]
    have := List.find?_some ho
    exact of_decide_eq_true this
theorem chk_parts {v : Vl} (h : checkP v = 0) : 1 ≤ v.kind ∧ v.kind ≤ 21 ∧ fitsB v.n (bitsN v.kind) (bitsS v.kind) = true ∧ v.items = [] ∧ (textual v.kind = false → v.text.size = 0) ∧ (v.kind = 15 ∨ v.kind = 18 → v.text.size = 16) := by
  unfold checkP at h
  split at h
  · cases h
  · rename_i h1
    split at h
    · cases h
    · rename_i h2
      have hi : v.items = [] := List.length_eq_zero_iff.1 (by
        rcases Nat.eq_zero_or_pos v.items.length with e | e
        · exact e
        · exact absurd (Or.inr (Or.inr (by omega))) h2)
      have hf : fitsB v.n (bitsN v.kind) (bitsS v.kind) = true := by
        cases hh : fitsB v.n (bitsN v.kind) (bitsS v.kind) with
        | true => rfl
        | false => exact absurd (Or.inl hh) h2
      refine ⟨by omega, by omega, hf, hi, fun ht => ?_, fun hk => ?_⟩
      · rw [if_pos ht] at h
        split at h
        · assumption
        · cases h
      · split at h
        · rename_i ht
          rcases hk with hk | hk <;> simp [textual, hk] at ht
        · split at h
          · cases h
          · rename_i h3
            rcases Nat.lt_trichotomy v.text.size 16 with e | e | e
            · exact absurd ⟨hk, by omega⟩ h3
            · exact e
            · exact absurd ⟨hk, by omega⟩ h3
theorem put_ok {b : Int} {v : Vl} (h : (putP b v).2 = 0) : checkP v = 0 ∧ fitsP b v = true := by
  unfold putP at h
  split at h
  · split at h
    · exact ⟨by assumption, by assumption⟩
    · cases h
  · rename_i h1
    exact absurd h h1
theorem put_val {b : Int} {v : Vl} (h : (putP b v).2 = 0) : (putP b v).1 = if (ofC b).sized = true then beB v.text.size (ofC b).width ++ v.text else if (ofC b).width = 16 then v.text else beB v.n (ofC b).width := by
  obtain ⟨h1, h2⟩ := put_ok h
  unfold putP
  rw [if_pos h1, if_pos h2]
end Go.Proofs.YtekpofpgkokoiaaDoor.P
set_option linter.unusedVariables false
set_option linter.unusedSimpArgs false
namespace Go.Proofs.YtekpofpgkokoiaaDoor.P
open Go.Proofs.YtekpofpgkokoiaaDoor.M
theorem snoc_ind {P : Bs → Prop} (nil : P []) (snoc : ∀ l b, P l → P (l ++ [b])) (l : Bs) : P l := by
  have h : ∀ l : Bs, P l.reverse := by
    intro l
    induction l with
    | nil => exact nil
    | cons a l ih => rw [List.reverse_cons]; exact snoc _ _ ih
  have := h l.reverse
  rwa [List.reverse_reverse] at this
theorem numL_snoc (l : Bs) (b : UInt8) : numL (l ++ [b]) = numL l * 256 + b.toNat := by simp [numL, List.foldl_append]
theorem numL_beL (n w : Nat) : numL (beL n w) = n % 256 ^ w := by
  induction w generalizing n with
  | zero => simp [beL, numL, Nat.mod_one]
  | succ w ih =>
    rw [beL, numL_snoc, ih, Nat.pow_succ, Nat.mul_comm (256 ^ w) 256, Nat.mod_mul]
    simp only [UInt8.toNat_ofNat', Nat.reducePow, Nat.mod_mod]
    omega
theorem numL_lt (l : Bs) : numL l < 256 ^ l.length := by
  induction l using snoc_ind with
  | nil => simp [numL]
  | snoc l b ih =>
    rw [numL_snoc, List.length_append, List.length_singleton, Nat.pow_succ]
    have := b.toNat_lt
    omega
theorem beL_numL (l : Bs) : beL (numL l) l.length = l := by
  induction l using snoc_ind with
  | nil => rfl
  | snoc l b ih =>
    rw [List.length_append, List.length_singleton, beL, numL_snoc]
    have hb := b.toNat_lt
    rw [show (numL l * 256 + b.toNat) / 256 = numL l by omega, ih, show (numL l * 256 + b.toNat) % 256 = b.toNat by omega]
    simp
theorem ofBs_list (l : Bs) : (ofBs l).data.toList = l := by simp [ofBs]
theorem ofBs_size (l : Bs) : (ofBs l).size = l.length := by rw [show (ofBs l).size = (ofBs l).data.toList.length from rfl, ofBs_list]
theorem app_list (s t : ByteArray) : (s ++ t).data.toList = s.data.toList ++ t.data.toList := by simp [ByteArray.data_append]
theorem beB_list (n w : Int) : (beB n w).data.toList = beL n.toNat w.toNat := by simp [beB]
theorem len_list (t : ByteArray) : t.data.toList.length = t.size := rfl
def putL (code : Int) (v : Vl) : Bs := (putP code v).1.data.toList
theorem putL_val {b : Int} {v : Vl} (h : (putP b v).2 = 0) : putL b v = if (ofC b).sized = true then beL v.text.size (ofC b).width.toNat ++ v.tx else if (ofC b).width = 16 then v.tx else beL v.n.toNat (ofC b).width.toNat := by
  unfold putL
  rw [put_val h]
  split
  · rw [app_list, beB_list]
    rfl
  · split
    · rfl
    · rw [beB_list]
theorem fits_parts {b : Int} {v : Vl} (h : fitsP b v = true) : ofB b = true ∧ (ofC b).kind = v.kind ∧ checkP v = 0 ∧ saysP (ofC b) v = true := by
  unfold fitsP at h
  simp only [Bool.and_eq_true, decide_eq_true_eq] at h
  exact ⟨h.1.1.1, h.1.1.2, h.1.2, h.2⟩
theorem ofO_of {b : Int} (h : ofB b = true) : ofO b = some (ofC b) := by
  cases ho : ofO b with
  | none => unfold ofB at h; rw [ho] at h; cases h
  | some c => unfold ofC; rw [ho]; rfl
theorem ofC_mem {b : Int} (h : ofB b = true) : ofC b ∈ tableL := List.mem_of_find?_eq_some (ofO_of h)
theorem tab_width : ∀ c ∈ tableL, 0 ≤ c.width ∧ c.width ≤ 16 ∧ (c.sized = true → c.width = 1 ∨ c.width = 4) ∧ (c.code = 65 → c.kind = 2 ∧ c.width = 0 ∧ c.sized = false) := by decide
theorem ofB_of {b : Int} {c : Ct} (h : ofO b = some c) : ofB b = true ∧ ofC b = c := by
  unfold ofB ofC
  rw [h]
  exact ⟨rfl, rfl⟩
theorem widen_zero (c : Ct) (h : c.width = 0) : widenP c 0 = 0 := by
  unfold widenP
  rw [if_neg (by omega)]
theorem beL_mod (n w : Nat) : beL (n % 256 ^ w) w = beL n w := by
  have h := beL_numL (beL n w)
  rwa [numL_beL, beL_len] at h
theorem widen_mod (c : Ct) (m : Nat) (hw : c.width = 0 ∨ c.width = 1 ∨ c.width = 2 ∨ c.width = 4 ∨ c.width = 8) (hm : m < 256 ^ c.width.toNat) : widenP c m % 256 ^ c.width.toNat = m ∧ widenP c m < 18446744073709551616 := by
  unfold widenP
  rcases hw with e | e | e | e | e <;> rw [e] at hm ⊢ <;> simp at hm ⊢ <;> (try split) <;> omega
theorem widen_fits8 (c : Ct) (m : Nat) (hw : c.width = 1) (hm : m < 256) : fitsB (widenP c m : Int) 8 (bitsS c.kind) = true := by
  unfold widenP fitsB
  rw [hw]
  cases hs : bitsS c.kind <;> simp <;> (try split) <;> omega
theorem tab_sizes : ∀ c ∈ tableL, c.items = false → c.sized = false → c.width = 16 ∨ c.width = 0 ∨ c.width = 1 ∨ c.width = 2 ∨ c.width = 4 ∨ c.width = 8 := by decide
theorem checkE_ok {u v : Vl} {m n : Nat} (h : checkE u m = .ok (v, n)) : u = v ∧ m = n ∧ checkP v = 0 := by
  unfold checkE at h
  split at h
  · injection h with h
    injection h with h1 h2
    subst h1 h2
    exact ⟨rfl, rfl, by assumption⟩
  · cases h
theorem put_get {b : Int} {s : Bs} {v : Vl} {n : Nat} (h : getE b s = .ok (v, n)) :
    n ≤ s.length ∧ checkP v = 0 ∧ fitsP b v = true ∧ putL b v = s.take n ∧ 0 ≤ v.n ∧ v.n < 18446744073709551616 ∧ v.items = [] ∧ v.text.size ≤ s.length ∧ v.kind = (ofC b).kind ∧ ofB b = true ∧ (ofC b).items = false := by
  unfold getE at h
  cases ho : ofO b with
  | none => rw [ho] at h; cases h
  | some c =>
    obtain ⟨hB, hC⟩ := ofB_of ho
    rw [ho] at h
    by_cases hit : c.items = true
    · simp only [hit, if_true] at h
      cases h
    · simp only [hit, Bool.false_eq_true, if_false] at h
      simp only [Bool.not_eq_true] at hit
      have hcm : c ∈ tableL := hC ▸ ofC_mem hB
      have hwd := tab_width c hcm
      have hcc : c.code = b := by have := ofC_code b hB; rwa [hC] at this
      have fin : ∀ (u : Vl) (m : Nat), checkE u m = .ok (v, n) → u.kind = c.kind → u.items = [] → 0 ≤ u.n → u.n < 18446744073709551616 → m ≤ s.length → u.text.size ≤ s.length → saysP c u = true →
          (fitsP b u = true → putL b u = s.take m) → n ≤ s.length ∧ checkP v = 0 ∧ fitsP b v = true ∧ putL b v = s.take n ∧ 0 ≤ v.n ∧ v.n < 18446744073709551616 ∧ v.items = [] ∧ v.text.size ≤ s.length ∧ v.kind = (ofC b).kind ∧ ofB b = true ∧ (ofC b).items = false := by
        intro u m hce hk hi h0 h1 hm ht hs hp
        obtain ⟨rfl, rfl, hck⟩ := checkE_ok hce
        have hf : fitsP b u = true := by
          unfold fitsP
          simp only [Bool.and_eq_true, decide_eq_true_eq]
          exact ⟨⟨⟨hB, by rw [hC, hk]⟩, hck⟩, by rw [hC]; exact hs⟩
        exact ⟨hm, hck, hf, hp hf, h0, h1, hi, ht, by rw [hC, hk], hB, by rw [hC]; exact hit⟩
      have pv : ∀ u : Vl, fitsP b u = true → (putP b u).2 = 0 := by
        intro u hf
        unfold putP
        rw [if_pos (fits_parts hf).2.2.1, if_pos hf]
      unfold rawE at h
      dsimp only at h
      by_cases hl : s.length < c.width.toNat
      · rw [if_pos hl] at h
        cases h
      rw [if_neg hl] at h
      have hlen : (s.take c.width.toNat).length = c.width.toNat := by rw [List.length_take]; omega
      by_cases hsz : c.sized = true
      · rw [if_pos hsz] at h
        by_cases hn : s.length - c.width.toNat < numL (s.take c.width.toNat)
        · rw [if_pos hn] at h
          cases h
        · rw [if_neg hn] at h
          have h65 : c.code ≠ 65 := fun e => by have := hwd.2.2.2 e; rw [hsz] at this; exact absurd this.2.2 (by simp)
          have hts : (ofBs ((s.drop c.width.toNat).take (numL (s.take c.width.toNat)))).size = numL (s.take c.width.toNat) := by
            rw [ofBs_size, List.length_take, List.length_drop]
            omega
          refine fin _ _ h rfl rfl (by dsimp only; omega) (by dsimp only; omega) (by omega) (by dsimp only; rw [hts]; omega) ?_ ?_
          · unfold saysP
            rw [if_neg h65, if_pos hsz]
            dsimp only
            rw [hts]
            rcases hwd.2.2.1 hsz with e | e
            · have := numL_lt (s.take c.width.toNat)
              rw [hlen, e] at this
              rw [e]
              simp at this ⊢
              omega
            · simp [e]
          · intro hf
            rw [putL_val (pv _ hf), hC, if_pos hsz]
            dsimp only [Vl.tx]
            have hb := beL_numL (s.take c.width.toNat)
            rw [hlen] at hb
            rw [hts, ofBs_list, hb, List.take_add]
      · rw [if_neg hsz] at h
        have hsz' : c.sized = false := by simpa using hsz
        by_cases h16 : c.width = 16
        · rw [if_pos h16] at h
          have h65 : c.code ≠ 65 := fun e => by have := hwd.2.2.2 e; omega
          refine fin _ _ h rfl rfl (by dsimp only; omega) (by dsimp only; omega) (by omega) (by dsimp only; rw [ofBs_size, List.length_take]; omega) ?_ ?_
          · unfold saysP
            rw [if_neg h65, if_neg hsz, if_neg (by omega), if_neg (by omega)]
          · intro hf
            rw [putL_val (pv _ hf), hC, if_neg hsz, if_pos h16]
            exact ofBs_list _
        · rw [if_neg h16] at h
          have hw8 : c.width = 0 ∨ c.width = 1 ∨ c.width = 2 ∨ c.width = 4 ∨ c.width = 8 := by have := tab_sizes c hcm hit hsz'; omega
          by_cases h65 : c.code = 65
          · rw [if_pos h65] at h
            have hw0 := (hwd.2.2.2 h65).2.1
            refine fin _ _ h rfl rfl (by dsimp only; omega) (by dsimp only; omega) (by omega) (by dsimp only; rw [ofBs_size]; simp) ?_ ?_
            · unfold saysP
              rw [if_pos h65]
              rfl
            · intro hf
              rw [putL_val (pv _ hf), hC, if_neg hsz, if_neg h16, hw0]
              rfl
          · rw [if_neg h65] at h
            have hlt := numL_lt (s.take c.width.toNat)
            rw [hlen] at hlt
            obtain ⟨m1, m2⟩ := widen_mod c _ hw8 hlt
            refine fin _ _ h rfl rfl (by dsimp only; omega) (by dsimp only; omega) (by omega) (by dsimp only; rw [ofBs_size]; simp) ?_ ?_
            · unfold saysP
              rw [if_neg h65, if_neg hsz]
              split
              · rename_i e
                dsimp only
                rw [e] at hlt ⊢
                have hz : numL (s.take (0 : Int).toNat) = 0 := by simp [numL]
                rw [hz, widen_zero c e]
                rfl
              · split
                · rename_i e
                  rw [e] at hlt
                  exact widen_fits8 c _ e (by simpa [e] using hlt)
                · rfl
            · intro hf
              rw [putL_val (pv _ hf), hC, if_neg hsz, if_neg h16]
              dsimp only
              rw [Int.toNat_natCast, ← beL_mod, m1]
              have hb := beL_numL (s.take c.width.toNat)
              rwa [hlen] at hb
end Go.Proofs.YtekpofpgkokoiaaDoor.P
