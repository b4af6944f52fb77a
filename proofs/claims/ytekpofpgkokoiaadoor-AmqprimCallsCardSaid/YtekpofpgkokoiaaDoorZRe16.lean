/- A part of this claim: what its theorem leans on. -/
import Derived.Test.YtekpofpgkokoiaaDoorZLv
import Derived.Test.YtekpofpgkokoiaaDoorZKs
import Derived.Test.YtekpofpgkokoiaaDoorZGp
import Derived.Lib.ValidLaws
import Derived.Lib.TrimUEq
import Derived.Test.YtekpofpgkokoiaaDoorZQref16ofaD
import Derived.Test.YtekpofpgkokoiaaDoorZQref16bigaD
import Derived.Test.YtekpofpgkokoiaaDoorZQpolyglotref16aD
set_option linter.unusedVariables false
set_option linter.unusedSimpArgs false
namespace Go.Proofs.YtekpofpgkokoiaaDoor.P
open Go.RowKit Go.Proofs.YtekpofpgkokoiaaDoor.M Go.Proofs.YtekpofpgkokoiaaDoor.Q Go.Proofs.YtekpofpgkokoiaaDoorW.PrintWords Go.Proofs.YtekpofpgkokoiaaDoorW.PrintMore
theorem tabR_find : ∀ c : _root_.Fin 256, tableR.find? (fun x => decide (x.code = (c.val : Int))) = ofO (c.val : Int) := by decide +kernel
theorem tabR_codes : ∀ x ∈ tableR, 0 ≤ x.code ∧ x.code ≤ 255 := by decide
theorem tabL_codes : ∀ x ∈ tableL, 0 ≤ x.code ∧ x.code ≤ 255 := by decide
theorem findR (code : Int) : tableR.find? (fun x => decide (x.code = code)) = ofO code := by
  by_cases h : 0 ≤ code ∧ code ≤ 255
  · obtain ⟨q, rfl⟩ := Int.eq_ofNat_of_zero_le h.1
    exact tabR_find ⟨q, by omega⟩
  · have h1 : tableR.find? (fun x => decide (x.code = code)) = none := List.find?_eq_none.2 fun x hx => by
      have := tabR_codes x hx
      simp
      omega
    have h2 : ofO code = none := by
      unfold ofO
      exact List.find?_eq_none.2 fun x hx => by
        have := tabL_codes x hx
        simp
        omega
    rw [h1, h2]
theorem tabR_kinds : ∀ k : _root_.Fin 26, (tableR.filter fun x => decide (x.kind = (k.val : Int))).map Ct.code = codesL k.val := by decide +kernel
theorem filterR (kind : Int) : (tableR.filter fun x => decide (x.kind = kind)).map Ct.code = codesL kind := by
  by_cases h : 0 ≤ kind ∧ kind ≤ 25
  · obtain ⟨q, rfl⟩ := Int.eq_ofNat_of_zero_le h.1
    exact tabR_kinds ⟨q, by omega⟩
  · have hk : ∀ x ∈ tableR, 0 ≤ x.kind ∧ x.kind ≤ 25 := by decide
    have h1 : (tableR.filter fun x => decide (x.kind = kind)) = [] := List.filter_eq_nil_iff.2 fun x hx => by
      have := hk x hx
      simp
      omega
    rw [h1, codes_none kind h]
    rfl
theorem rdC_at {l : List Ct} {j : Nat} (h : j < l.length) : rdC l (j : Int) = l[j] := by
  unfold rdC
  rw [show (j : Int).toNat = j by omega, List.getD_eq_getElem?_getD, List.getElem?_eq_getElem h]
  rfl
theorem tabR_len : tableR.length = 40 := by decide
theorem tab_some : polyglotref16_table.f = some tableR := rfl
def ofR (o : Option Ct) : Int × Int × Int × Bool × Bool × Bool := match o with
  | some c => (c.code, c.kind, c.width, c.sized, c.items, true)
  | none => (0, 0, 0, false, false, false)
theorem ofR_of (code : Int) : ofR (ofO code) = ((ofC code).code, (ofC code).kind, (ofC code).width, (ofC code).sized, (ofC code).items, ofB code) := by
  unfold ofR ofC ofB
  cases ofO code <;> rfl
theorem rof_fin (code : Int) : Fin (fun k => polyglotref16_Of.f k code) ((ofC code).code, (ofC code).kind, (ofC code).width, (ofC code).sized, (ofC code).items, ofB code) := by
  have loop : ∀ (d i : Nat), i + d = tableR.length → Fin (fun q => polyglotref16_Of.l0 q code tableR (i : Int)) (ofR ((tableR.drop i).find? (fun x => decide (x.code = code)))) := by
    intro d
    induction d with
    | zero =>
      intro i hi
      refine Fin.step (g' := fun _ => some (0, 0, 0, false, false, false)) (fun q => ?_) ?_
      · simp only [polyglotref16_Of.l0]
        rw [if_neg (by omega)]
      · rw [List.drop_eq_nil_of_le (by omega)]
        exact Fin.const _
    | succ d ihd =>
      intro i hi
      have h1 : i < tableR.length := by omega
      have hlen := tabR_len
      refine Fin.step (fun q => by simp only [polyglotref16_Of.l0]; rw [if_pos (by omega), if_pos (by omega), rdC_at h1, w64s i (by omega)]) ?_
      rw [List.drop_eq_getElem_cons h1, List.find?_cons]
      by_cases hc : tableR[i].code = code
      · simp only [hc, if_true, decide_true]
        have e : ofR (some tableR[i]) = (code, tableR[i].kind, tableR[i].width, tableR[i].sized, tableR[i].items, true) := by
          show (tableR[i].code, _) = _
          rw [hc]
        rw [e]
        exact Fin.const _
      · simp only [hc, if_false, decide_false]
        exact ihd (i + 1) (by omega)
  have := loop tableR.length 0 (by omega)
  rw [List.drop_zero, findR, ofR_of] at this
  exact Fin.eq (fun k => by rw [polyglotref16_Of.f, tab_some]; rfl) this
theorem rcodes_fin (kind : Int) : Fin (fun k => polyglotref16_Codes.f k kind) (codesL kind) := by
  have hlen := tabR_len
  have loop : ∀ (d i : Nat) (acc : List Int), i + d = tableR.length → acc.length ≤ i → Fin (fun q => polyglotref16_Codes.l0 q kind acc tableR (i : Int)) (acc ++ ((tableR.drop i).filter fun x => decide (x.kind = kind)).map Ct.code) := by
    intro d
    induction d with
    | zero =>
      intro i acc hi ha
      refine Fin.step (g' := fun _ => some acc) (fun q => ?_) ?_
      · simp only [polyglotref16_Codes.l0]
        rw [if_neg (by omega)]
      · rw [List.drop_eq_nil_of_le (by omega)]
        simp only [List.filter_nil, List.map_nil, List.append_nil]
        exact Fin.const _
    | succ d ihd =>
      intro i acc hi ha
      have h1 : i < tableR.length := by omega
      refine Fin.step (fun q => by simp only [polyglotref16_Codes.l0]; rw [if_pos (by omega), if_pos (by omega), rdC_at h1, w64s i (by omega), if_pos (show acc.length < 17592186044416 by omega)]) ?_
      rw [List.drop_eq_getElem_cons h1, List.filter_cons]
      by_cases hc : tableR[i].kind = kind
      · simp only [hc, if_true, decide_true, List.map_cons]
        have := ihd (i + 1) (acc ++ [tableR[i].code]) (by omega) (by simp; omega)
        rw [List.append_assoc] at this
        exact this
      · simp only [hc, if_false, decide_false, Bool.false_eq_true]
        exact ihd (i + 1) acc (by omega) (by omega)
  have := loop tableR.length 0 [] (by omega) (by simp)
  rw [List.drop_zero, filterR, List.nil_append] at this
  exact Fin.eq (fun k => by rw [polyglotref16_Codes.f, tab_some]; rfl) this
def rbits (k : Int) : Int := if k = 7 then -8 else if k = 8 then -16 else if k = 9 then -32 else bitsN k
theorem rbits_j1t (x : Int) : Fin (fun k => polyglotref16_bits.j1 k x true) 64 := Fin.step (g' := fun _ => some 64) (fun k => by simp only [polyglotref16_bits.j1, if_true]) (Fin.const _)
theorem rbits_j0t (x : Int) : Fin (fun k => polyglotref16_bits.j0 k x true) 32 := Fin.step (g' := fun _ => some 32) (fun k => by simp only [polyglotref16_bits.j0, if_true]) (Fin.const _)
theorem rbits_fin (x : Int) : Fin (fun k => polyglotref16_bits.f k x) (rbits x) := by
  unfold rbits bitsN
  refine Fin.eq (fun k => by rw [polyglotref16_bits.f]) ?_
  by_cases h2 : x = 2
  · subst h2; exact Fin.const _
  by_cases h3 : x = 3
  · subst h3; exact Fin.const _
  by_cases h4 : x = 4
  · subst h4; exact Fin.const _
  simp only [h2, h3, h4, if_false]
  by_cases h5 : x = 5
  · subst h5; exact rbits_j0t _
  by_cases h11 : x = 11
  · subst h11; exact rbits_j0t _
  by_cases h13 : x = 13
  · subst h13; exact rbits_j0t _
  by_cases h16 : x = 16
  · subst h16; exact rbits_j0t _
  simp only [h5, h11, h13, if_false, show (x == 16) = false by simpa using h16]
  refine Fin.step (fun k => by simp only [polyglotref16_bits.j0, Bool.false_eq_true, if_false]; rfl) ?_
  by_cases h6 : x = 6
  · subst h6; exact rbits_j1t _
  by_cases h12 : x = 12
  · subst h12; exact rbits_j1t _
  by_cases h14 : x = 14
  · subst h14; exact rbits_j1t _
  by_cases h17 : x = 17
  · subst h17; exact rbits_j1t _
  by_cases h10 : x = 10
  · subst h10; exact rbits_j1t _
  simp only [h6, h12, h14, h17, if_false, show (x == 10) = false by simpa using h10]
  refine Fin.step (fun k => by simp only [polyglotref16_bits.j1, Bool.false_eq_true, if_false]; rfl) ?_
  by_cases h7 : x = 7
  · subst h7; exact Fin.const _
  by_cases h8 : x = 8
  · subst h8; exact Fin.const _
  by_cases h9 : x = 9
  · subst h9; exact Fin.const _
  simp only [h7, h8, h9, if_false]
  simp only [h2, h3, h4, h5, h6, h7, h8, h9, h10, h11, h12, h13, h14, h16, h17, or_self, if_false]
  exact Fin.const _
theorem signed_some (n b : Int) (hb : b = 8 ∨ b = 16 ∨ b = 32) (h0 : 0 ≤ n) (h1 : n < 18446744073709551616) : polyglotref16_signed.f n b = some (fitsB n b true) := by
  unfold polyglotref16_signed.f fitsB
  rcases hb with rfl | rfl | rfl
  · have e1 : shl .u64 1 (IntKind.u64.wrap (8 - 1)) = 128 := by decide
    rw [e1, if_pos (by decide), show IntKind.u64.wrap (-128) = 18446744073709551488 by decide]
    by_cases h : n < 128
    · rw [if_pos h]; simp; omega
    · rw [if_neg h]; congr 1; rw [Bool.eq_iff_iff]; simp; omega
  · have e1 : shl .u64 1 (IntKind.u64.wrap (16 - 1)) = 32768 := by decide
    rw [e1, if_pos (by decide), show IntKind.u64.wrap (-32768) = 18446744073709518848 by decide]
    by_cases h : n < 32768
    · rw [if_pos h]; simp; omega
    · rw [if_neg h]; congr 1; rw [Bool.eq_iff_iff]; simp; omega
  · have e1 : shl .u64 1 (IntKind.u64.wrap (32 - 1)) = 2147483648 := by decide
    rw [e1, if_pos (by decide), show IntKind.u64.wrap (-2147483648) = 18446744071562067968 by decide]
    by_cases h : n < 2147483648
    · rw [if_pos h]; simp; omega
    · rw [if_neg h]; congr 1; rw [Bool.eq_iff_iff]; simp; omega
theorem char_some (n : Int) : polyglotref16_char.f n = some (charOk n) := by
  unfold polyglotref16_char.f charOk
  by_cases h : n ≤ 1114111
  · rw [if_pos h]
    by_cases h2 : n < 55296
    · rw [if_pos h2]; congr 1; rw [Bool.eq_iff_iff]; simp; omega
    · rw [if_neg h2]; congr 1; rw [Bool.eq_iff_iff]; simp; omega
  · rw [if_neg h]; congr 1; rw [Bool.eq_iff_iff]; simp; omega
theorem texts_some (k : Int) : polyglotref16_texts.f k = some (textual k) := by
  unfold polyglotref16_texts.f textual
  by_cases h : k = 15
  · rw [if_pos h]; congr 1; rw [Bool.eq_iff_iff]; simp [h]
  · rw [if_neg h]
    by_cases h2 : k ≥ 18
    · rw [if_pos h2]; congr 1; rw [Bool.eq_iff_iff]; simp; omega
    · rw [if_neg h2]; congr 1; rw [Bool.eq_iff_iff]; simp; omega
def rangedP (k n : Int) : Bool := fitsB n (bitsN k) (bitsS k) && (decide (k ≠ 16) || charOk n)
theorem ranged_fin (k n : Int) (t : ByteArray) (l : List Vl) (h0 : 0 ≤ n) (h1 : n < 18446744073709551616) : Fin (fun q => polyglotref16_ranged.f q k n t l) (rangedP k n) := by
  refine Fin.eq (fun q => by rw [polyglotref16_ranged.f]) (Fin.bind (rbits_fin k) ?_)
  by_cases h16 : k = 16
  · refine Fin.ifp h16 (Fin.bc (char_some n) (Fin.of fun _ => ?_))
    congr 1
    subst h16
    unfold rangedP charOk fitsB
    rw [Bool.eq_iff_iff]
    simp [bitsN, bitsS]
    omega
  refine Fin.ifn h16 ?_
  have hr : rangedP k n = fitsB n (bitsN k) (bitsS k) := by unfold rangedP; simp [h16]
  rw [hr]
  have small : ∀ b : Int, (b = 1 ∨ b = 8 ∨ b = 16 ∨ b = 32) → fitsB n b false = decide (n < shl .u64 1 (IntKind.u64.wrap b)) ∧ 0 ≤ IntKind.u64.wrap b := by
    intro b hb
    unfold fitsB
    rcases hb with rfl | rfl | rfl | rfl
    · exact ⟨by rw [show shl .u64 1 (IntKind.u64.wrap 1) = 2 by decide]; rfl, by decide⟩
    · exact ⟨by rw [show shl .u64 1 (IntKind.u64.wrap 8) = 256 by decide]; rfl, by decide⟩
    · exact ⟨by rw [show shl .u64 1 (IntKind.u64.wrap 16) = 65536 by decide]; rfl, by decide⟩
    · exact ⟨by rw [show shl .u64 1 (IntKind.u64.wrap 32) = 4294967296 by decide]; rfl, by decide⟩
  have uns : ∀ b : Int, (b = 1 ∨ b = 8 ∨ b = 16 ∨ b = 32) → rbits k = b → bitsN k = b → bitsS k = false → Fin (fun _ : Nat => (if rbits k = 0 then (some (n == 0)) else (if rbits k < 0 then ((polyglotref16_signed.f n (IntKind.u64.wrap (wrap64 (-rbits k)))).bind fun t308 => (some t308)) else (if rbits k = 64 then (some true) else (if 0 ≤ (IntKind.u64.wrap (rbits k)) then (some (decide (n < (shl .u64 1 (IntKind.u64.wrap (rbits k)))))) else (none)))))) (fitsB n (bitsN k) (bitsS k)) := by
    intro b hb e1 e2 e3
    rw [e1, e2, e3]
    obtain ⟨s1, s2⟩ := small b hb
    rw [s1]
    exact Fin.ifn (by omega) (Fin.ifn (by omega) (Fin.ifn (by omega) (Fin.ifp s2 (Fin.const _))))
  have sgn : ∀ b : Int, (b = 8 ∨ b = 16 ∨ b = 32) → rbits k = -b → bitsN k = b → bitsS k = true → Fin (fun _ : Nat => (if rbits k = 0 then (some (n == 0)) else (if rbits k < 0 then ((polyglotref16_signed.f n (IntKind.u64.wrap (wrap64 (-rbits k)))).bind fun t308 => (some t308)) else (if rbits k = 64 then (some true) else (if 0 ≤ (IntKind.u64.wrap (rbits k)) then (some (decide (n < (shl .u64 1 (IntKind.u64.wrap (rbits k)))))) else (none)))))) (fitsB n (bitsN k) (bitsS k)) := by
    intro b hb e1 e2 e3
    rw [e1, e2, e3]
    have hw : IntKind.u64.wrap (wrap64 (- -b)) = b := by rw [w64 _ (by omega) (by omega), u64w _ (by omega) (by omega)]; omega
    rw [hw]
    refine Fin.ifn (by omega) (Fin.ifp (by omega) (Fin.bc (signed_some n b hb h0 h1) (Fin.const _)))
  by_cases k2 : k = 2
  · subst k2; exact uns 1 (by omega) rfl rfl rfl
  by_cases k3 : k = 3
  · subst k3; exact uns 8 (by omega) rfl rfl rfl
  by_cases k4 : k = 4
  · subst k4; exact uns 16 (by omega) rfl rfl rfl
  by_cases k5 : k = 5 ∨ k = 11 ∨ k = 13
  · rcases k5 with rfl | rfl | rfl <;> exact uns 32 (by omega) rfl rfl rfl
  by_cases k7 : k = 7
  · subst k7; exact sgn 8 (by omega) rfl rfl rfl
  by_cases k8 : k = 8
  · subst k8; exact sgn 16 (by omega) rfl rfl rfl
  by_cases k9 : k = 9
  · subst k9; exact sgn 32 (by omega) rfl rfl rfl
  by_cases k6 : k = 6 ∨ k = 12 ∨ k = 14 ∨ k = 10 ∨ k = 17
  · have e1 : rbits k = 64 := by rcases k6 with rfl | rfl | rfl | rfl | rfl <;> rfl
    have e2 : bitsN k = 64 := by rcases k6 with rfl | rfl | rfl | rfl | rfl <;> rfl
    rw [e1]
    refine Fin.ifn (by decide) (Fin.ifn (by decide) (Fin.ifp rfl (Fin.of fun _ => ?_)))
    congr 1
    rw [e2]
    unfold fitsB
    split
    · symm; rw [decide_eq_true_eq]; show n < 9223372036854775808 ∨ 9223372036854775808 ≤ n; omega
    · symm; rw [decide_eq_true_eq]; exact h1
  · have e1 : bitsN k = 0 := by unfold bitsN; rw [if_neg (by omega), if_neg (by omega), if_neg (by omega), if_neg (by omega), if_neg (by omega)]
    have e2 : rbits k = 0 := by unfold rbits; simp [k7, k8, k9, e1]
    have e3 : bitsS k = false := by unfold bitsS; simp; omega
    rw [e2, e1, e3]
    refine Fin.ifp rfl (Fin.of fun _ => ?_)
    congr 1
    unfold fitsB
    rw [Bool.eq_iff_iff]
    simp
    omega
def aft (s : ByteArray) (i : Nat) (lo hi : Int) : Bool := decide (i < s.size) && decide (lo ≤ bt s i) && decide (bt s i ≤ hi)
theorem after_some (s : ByteArray) (i : Nat) (lo hi : Int) : polyglotref16_after.f s (i : Int) lo hi = some (aft s i lo hi) := by
  unfold polyglotref16_after.f aft
  by_cases h : i < s.size
  · rw [if_pos (by omega), if_pos (by omega)]
    by_cases h2 : bt s i ≥ lo
    · rw [if_pos h2]; simp [h, h2]
    · rw [if_neg h2]; simp [h]; omega
  · rw [if_neg (by omega)]; simp [h]
def stepP (s : ByteArray) (i : Nat) : Int :=
  let c := bt s i
  if c < 128 then 1
  else if 194 ≤ c ∧ c ≤ 223 ∧ aft s (i + 1) 128 191 = true then 2
  else if (c = 224 ∧ aft s (i + 1) 160 191 = true ∧ aft s (i + 2) 128 191 = true) ∨ (c = 237 ∧ aft s (i + 1) 128 159 = true ∧ aft s (i + 2) 128 191 = true) ∨ (225 ≤ c ∧ c ≤ 239 ∧ c ≠ 237 ∧ aft s (i + 1) 128 191 = true ∧ aft s (i + 2) 128 191 = true) then 3
  else if (c = 240 ∧ aft s (i + 1) 144 191 = true ∧ aft s (i + 2) 128 191 = true ∧ aft s (i + 3) 128 191 = true) ∨ (241 ≤ c ∧ c ≤ 243 ∧ aft s (i + 1) 128 191 = true ∧ aft s (i + 2) 128 191 = true ∧ aft s (i + 3) 128 191 = true) ∨ (c = 244 ∧ aft s (i + 1) 128 143 = true ∧ aft s (i + 2) 128 191 = true ∧ aft s (i + 3) 128 191 = true) then 4
  else 0
theorem step_j5 (s : ByteArray) (i : Nat) (hi : i + 4 < 9223372036854775807) (c : Int) (b : Bool) : Fin (fun k => polyglotref16_step.j5 k s (i : Int) c b) (if b = true ∨ (c = 244 ∧ aft s (i + 1) 128 143 = true ∧ aft s (i + 2) 128 191 = true ∧ aft s (i + 3) 128 191 = true) then 4 else 0) := by
  have w1 : wrap64 ((i : Int) + 1) = ((i + 1 : Nat) : Int) := by rw [w64 _ (by omega) (by omega)]; omega
  have w2 : wrap64 ((i : Int) + 2) = ((i + 2 : Nat) : Int) := by rw [w64 _ (by omega) (by omega)]; omega
  have w3 : wrap64 ((i : Int) + 3) = ((i + 3 : Nat) : Int) := by rw [w64 _ (by omega) (by omega)]; omega
  refine Fin.step (fun k => by simp only [polyglotref16_step.j5]; rw [w1, w2, w3, after_some, after_some, after_some]) ?_
  simp only [Option.bind_some]
  refine Fin.of fun _ => ?_
  cases b <;> cases aft s (i + 1) 128 143 <;> cases aft s (i + 2) 128 191 <;> cases aft s (i + 3) 128 191 <;> by_cases hc : c = 244 <;> simp [hc]
theorem step_j4 (s : ByteArray) (i : Nat) (hi : i + 4 < 9223372036854775807) (c : Int) (b : Bool) : Fin (fun k => polyglotref16_step.j4 k s (i : Int) c b) (if b = true ∨ (241 ≤ c ∧ c ≤ 243 ∧ aft s (i + 1) 128 191 = true ∧ aft s (i + 2) 128 191 = true ∧ aft s (i + 3) 128 191 = true) ∨ (c = 244 ∧ aft s (i + 1) 128 143 = true ∧ aft s (i + 2) 128 191 = true ∧ aft s (i + 3) 128 191 = true) then 4 else 0) := by
  have w1 : wrap64 ((i : Int) + 1) = ((i + 1 : Nat) : Int) := by rw [w64 _ (by omega) (by omega)]; omega
  have w2 : wrap64 ((i : Int) + 2) = ((i + 2 : Nat) : Int) := by rw [w64 _ (by omega) (by omega)]; omega
  have w3 : wrap64 ((i : Int) + 3) = ((i + 3 : Nat) : Int) := by rw [w64 _ (by omega) (by omega)]; omega
  refine Fin.step (fun k => by simp only [polyglotref16_step.j4]; rw [w1, w2, w3, after_some, after_some, after_some]) ?_
  simp only [Option.bind_some]
  cases b with
  | true => simp; exact Fin.const _
  | false =>
    have hj := fun b => step_j5 s i hi c b
    by_cases h : 241 ≤ c ∧ c ≤ 243
    · have hn : ¬ c = 244 := by omega
      have h1 : c ≥ 241 := h.1
      cases ha : aft s (i + 1) 128 191 <;> cases hb : aft s (i + 2) 128 191 <;> cases hc : aft s (i + 3) 128 191 <;> simp only [Bool.false_eq_true, if_false, if_true, h1, h.2, hn, false_and, and_false, or_false, false_or, and_true, true_and, and_self] <;> (first | (have := hj true; simpa [hn] using this) | (have := hj false; simpa [hn] using this))
    · have := hj false
      have h' : ∀ (x y : Nat → Option Int), Fin y (if (false = true ∨ (c = 244 ∧ aft s (i + 1) 128 143 = true ∧ aft s (i + 2) 128 191 = true ∧ aft s (i + 3) 128 191 = true)) then (4 : Int) else 0) → Fin (fun k => if c ≥ 241 then (if c ≤ 243 then x k else y k) else y k) (if (false = true ∨ (241 ≤ c ∧ c ≤ 243 ∧ aft s (i + 1) 128 191 = true ∧ aft s (i + 2) 128 191 = true ∧ aft s (i + 3) 128 191 = true) ∨ (c = 244 ∧ aft s (i + 1) 128 143 = true ∧ aft s (i + 2) 128 191 = true ∧ aft s (i + 3) 128 191 = true)) then (4 : Int) else 0) := by
        intro x y hy
        have e : (false = true ∨ (241 ≤ c ∧ c ≤ 243 ∧ aft s (i + 1) 128 191 = true ∧ aft s (i + 2) 128 191 = true ∧ aft s (i + 3) 128 191 = true) ∨ (c = 244 ∧ aft s (i + 1) 128 143 = true ∧ aft s (i + 2) 128 191 = true ∧ aft s (i + 3) 128 191 = true)) = (false = true ∨ (c = 244 ∧ aft s (i + 1) 128 143 = true ∧ aft s (i + 2) 128 191 = true ∧ aft s (i + 3) 128 191 = true)) := propext ⟨fun hh => by rcases hh with hh | ⟨h1, h2, _⟩ | hh; exact .inl hh; exact absurd ⟨h1, h2⟩ h; exact .inr hh, fun hh => by rcases hh with hh | hh; exact .inl hh; exact .inr (.inr hh)⟩
        simp only [e]
        refine Fin.eq (fun k => ?_) hy
        by_cases h1 : c ≥ 241
        · rw [if_pos h1, if_neg (fun h2 => h ⟨h1, h2⟩)]
        · rw [if_neg h1]
      exact h' _ _ this
def t4 (s : ByteArray) (i : Nat) (c : Int) : Prop := (c = 240 ∧ aft s (i + 1) 144 191 = true ∧ aft s (i + 2) 128 191 = true ∧ aft s (i + 3) 128 191 = true) ∨ (241 ≤ c ∧ c ≤ 243 ∧ aft s (i + 1) 128 191 = true ∧ aft s (i + 2) 128 191 = true ∧ aft s (i + 3) 128 191 = true) ∨ (c = 244 ∧ aft s (i + 1) 128 143 = true ∧ aft s (i + 2) 128 191 = true ∧ aft s (i + 3) 128 191 = true)
instance (s : ByteArray) (i : Nat) (c : Int) : Decidable (t4 s i c) := by unfold t4; infer_instance
def t3 (s : ByteArray) (i : Nat) (c : Int) : Prop := (c = 224 ∧ aft s (i + 1) 160 191 = true ∧ aft s (i + 2) 128 191 = true) ∨ (c = 237 ∧ aft s (i + 1) 128 159 = true ∧ aft s (i + 2) 128 191 = true) ∨ (225 ≤ c ∧ c ≤ 239 ∧ c ≠ 237 ∧ aft s (i + 1) 128 191 = true ∧ aft s (i + 2) 128 191 = true)
instance (s : ByteArray) (i : Nat) (c : Int) : Decidable (t3 s i c) := by unfold t3; infer_instance
theorem wr3 {i : Nat} (hi : i + 4 < 9223372036854775807) : wrap64 ((i : Int) + 1) = ((i + 1 : Nat) : Int) ∧ wrap64 ((i : Int) + 2) = ((i + 2 : Nat) : Int) ∧ wrap64 ((i : Int) + 3) = ((i + 3 : Nat) : Int) :=
  ⟨by rw [w64 _ (by omega) (by omega)]; omega, by rw [w64 _ (by omega) (by omega)]; omega, by rw [w64 _ (by omega) (by omega)]; omega⟩
theorem step_j3 (s : ByteArray) (i : Nat) (hi : i + 4 < 9223372036854775807) (c : Int) (b : Bool) : Fin (fun k => polyglotref16_step.j3 k s (i : Int) c b) (if b = true then 3 else if t4 s i c then 4 else 0) := by
  obtain ⟨w1, w2, w3⟩ := wr3 hi
  refine Fin.step (fun k => by simp only [polyglotref16_step.j3]; rw [w1, w2, w3, after_some, after_some, after_some]) ?_
  simp only [Option.bind_some]
  cases b with
  | true => exact Fin.const _
  | false =>
    simp only [Bool.false_eq_true, if_false]
    have hj := fun b => step_j4 s i hi c b
    by_cases h : c = 240
    · have jT := hj true
      rw [if_pos (.inl rfl)] at jT
      have jF := hj false
      rw [if_neg (by rintro (h1 | ⟨h1, _⟩ | ⟨h1, _⟩); exact absurd h1 (by decide); omega; omega)] at jF
      refine Fin.ifp h ?_
      by_cases ha : aft s (i + 1) 144 191 = true
      · refine Fin.ifp ha ?_
        by_cases hb : aft s (i + 2) 128 191 = true
        · refine Fin.ifp hb ?_
          by_cases hc : aft s (i + 3) 128 191 = true
          · rw [if_pos (show t4 s i c from .inl ⟨h, ha, hb, hc⟩), hc]
            exact jT
          · rw [if_neg (show ¬ t4 s i c by rintro (⟨_, _, _, h4⟩ | ⟨h1, _⟩ | ⟨h1, _⟩); exact hc h4; omega; omega), show aft s (i + 3) 128 191 = false by simpa using hc]
            exact jF
        · rw [if_neg (show ¬ t4 s i c by rintro (⟨_, _, h4, _⟩ | ⟨h1, _⟩ | ⟨h1, _⟩); exact hb h4; omega; omega)]
          exact Fin.ifn hb jF
      · rw [if_neg (show ¬ t4 s i c by rintro (⟨_, h4, _⟩ | ⟨h1, _⟩ | ⟨h1, _⟩); exact ha h4; omega; omega)]
        exact Fin.ifn ha jF
    · have jF := hj false
      have e : t4 s i c ↔ (false = true ∨ (241 ≤ c ∧ c ≤ 243 ∧ aft s (i + 1) 128 191 = true ∧ aft s (i + 2) 128 191 = true ∧ aft s (i + 3) 128 191 = true) ∨ (c = 244 ∧ aft s (i + 1) 128 143 = true ∧ aft s (i + 2) 128 191 = true ∧ aft s (i + 3) 128 191 = true)) :=
        ⟨fun hh => by rcases hh with hh | hh; exact absurd hh.1 h; exact .inr hh, fun hh => by rcases hh with hh | hh; exact absurd hh (by decide); exact .inr hh⟩
      refine Fin.ifn h ?_
      by_cases hx : t4 s i c
      · rw [if_pos hx]
        rw [if_pos (e.1 hx)] at jF
        exact jF
      · rw [if_neg hx]
        rw [if_neg (fun hh => hx (e.2 hh))] at jF
        exact jF
theorem step_j2 (s : ByteArray) (i : Nat) (hi : i + 4 < 9223372036854775807) (c : Int) (b : Bool) : Fin (fun k => polyglotref16_step.j2 k s (i : Int) c b) (if b = true ∨ (225 ≤ c ∧ c ≤ 239 ∧ c ≠ 237 ∧ aft s (i + 1) 128 191 = true ∧ aft s (i + 2) 128 191 = true) then 3 else if t4 s i c then 4 else 0) := by
  obtain ⟨w1, w2, w3⟩ := wr3 hi
  refine Fin.step (fun k => by simp only [polyglotref16_step.j2]; rw [w1, w2, after_some, after_some]) ?_
  simp only [Option.bind_some]
  have hj := fun b => step_j3 s i hi c b
  cases b with
  | true =>
    have := hj true
    simpa using this
  | false =>
    simp only [Bool.false_eq_true, if_false, false_or]
    have jF := hj false
    simp only [Bool.false_eq_true, if_false] at jF
    by_cases h1 : c ≥ 225
    · by_cases h2 : c ≤ 239
      · by_cases h3 : c = 237
        · simp only [h3, if_true, ne_eq, not_true_eq_false, false_and, and_false, if_false]
          rw [h3] at jF
          exact Fin.ifp (by omega) (Fin.ifp (by omega) jF)
        · refine Fin.ifp h1 (Fin.ifp h2 (Fin.ifn h3 ?_))
          have h1' : 225 ≤ c := h1
          cases ha : aft s (i + 1) 128 191 <;> cases hb : aft s (i + 2) 128 191 <;> simp only [Bool.false_eq_true, if_false, if_true, h1', h2, h3, ne_eq, not_false_eq_true, true_and, and_false, false_and, and_true, and_self] <;> (first | exact hj true | exact jF)
      · rw [if_neg (by rintro ⟨_, h, _⟩; exact h2 h)]
        exact Fin.ifp h1 (Fin.ifn h2 jF)
    · rw [if_neg (by rintro ⟨h, _⟩; exact h1 h)]
      exact Fin.ifn h1 jF
theorem step_j1 (s : ByteArray) (i : Nat) (hi : i + 4 < 9223372036854775807) (c : Int) (b : Bool) : Fin (fun k => polyglotref16_step.j1 k s (i : Int) c b) (if b = true ∨ (c = 237 ∧ aft s (i + 1) 128 159 = true ∧ aft s (i + 2) 128 191 = true) ∨ (225 ≤ c ∧ c ≤ 239 ∧ c ≠ 237 ∧ aft s (i + 1) 128 191 = true ∧ aft s (i + 2) 128 191 = true) then 3 else if t4 s i c then 4 else 0) := by
  obtain ⟨w1, w2, w3⟩ := wr3 hi
  refine Fin.step (fun k => by simp only [polyglotref16_step.j1]; rw [w1, w2, after_some, after_some]) ?_
  simp only [Option.bind_some]
  cases b with
  | true =>
    have := step_j3 s i hi c true
    simpa using this
  | false =>
    simp only [Bool.false_eq_true, if_false, false_or]
    have hj := fun b => step_j2 s i hi c b
    by_cases h : c = 237
    · subst h
      have hn : ¬ ((237 : Int) ≠ 237) := by decide
      cases ha : aft s (i + 1) 128 159 <;> cases hb : aft s (i + 2) 128 191 <;> simp only [Bool.false_eq_true, if_false, if_true, ne_eq, not_true_eq_false, true_and, and_false, false_and, and_true, and_self, or_false, true_or] <;> (first | (have := hj true; simpa using this) | (have := hj false; simpa using this))
    · have := hj false
      simp only [Bool.false_eq_true, false_or] at this
      simp only [h, if_false, false_and, false_or]
      exact this
theorem step_j0 (s : ByteArray) (i : Nat) (hi : i + 4 < 9223372036854775807) (c : Int) (b : Bool) : Fin (fun k => polyglotref16_step.j0 k s (i : Int) c b) (if b = true then 2 else if t3 s i c then 3 else if t4 s i c then 4 else 0) := by
  obtain ⟨w1, w2, w3⟩ := wr3 hi
  refine Fin.step (fun k => by simp only [polyglotref16_step.j0]; rw [w1, w2, after_some, after_some]) ?_
  simp only [Option.bind_some]
  cases b with
  | true => exact Fin.const _
  | false =>
    simp only [Bool.false_eq_true, if_false]
    have hj := fun b => step_j1 s i hi c b
    by_cases h : c = 224
    · have jT := hj true
      rw [if_pos (.inl rfl)] at jT
      have jF := hj false
      rw [if_neg (by rintro (h1 | ⟨h1, _⟩ | ⟨h1, _⟩); exact absurd h1 (by decide); omega; omega)] at jF
      refine Fin.ifp h ?_
      by_cases ha : aft s (i + 1) 160 191 = true
      · refine Fin.ifp ha ?_
        by_cases hb : aft s (i + 2) 128 191 = true
        · rw [if_pos (show t3 s i c from .inl ⟨h, ha, hb⟩), hb]
          exact jT
        · rw [if_neg (show ¬ t3 s i c by rintro (⟨_, _, h4⟩ | ⟨h1, _⟩ | ⟨h1, _⟩); exact hb h4; omega; omega), show aft s (i + 2) 128 191 = false by simpa using hb]
          exact jF
      · rw [if_neg (show ¬ t3 s i c by rintro (⟨_, h4, _⟩ | ⟨h1, _⟩ | ⟨h1, _⟩); exact ha h4; omega; omega)]
        exact Fin.ifn ha jF
    · have jF := hj false
      have e : t3 s i c ↔ (false = true ∨ (c = 237 ∧ aft s (i + 1) 128 159 = true ∧ aft s (i + 2) 128 191 = true) ∨ (225 ≤ c ∧ c ≤ 239 ∧ c ≠ 237 ∧ aft s (i + 1) 128 191 = true ∧ aft s (i + 2) 128 191 = true)) :=
        ⟨fun hh => by rcases hh with hh | hh; exact absurd hh.1 h; exact .inr hh, fun hh => by rcases hh with hh | hh; exact absurd hh (by decide); exact .inr hh⟩
      refine Fin.ifn h ?_
      by_cases hx : t3 s i c
      · rw [if_pos hx]
        rw [if_pos (e.1 hx)] at jF
        exact jF
      · rw [if_neg hx]
        rw [if_neg (fun hh => hx (e.2 hh))] at jF
        exact jF
theorem step_fin (s : ByteArray) (i : Nat) (hi : i < s.size) (hs : s.size ≤ 140737488351232) : Fin (fun k => polyglotref16_step.f k s (i : Int)) (stepP s i) := by
  have hi4 : i + 4 < 9223372036854775807 := by omega
  obtain ⟨w1, _, _⟩ := wr3 hi4
  have e : stepP s i = if bt s i < 128 then 1 else if 194 ≤ bt s i ∧ bt s i ≤ 223 ∧ aft s (i + 1) 128 191 = true then 2 else if t3 s i (bt s i) then 3 else if t4 s i (bt s i) then 4 else 0 := rfl
  rw [e]
  refine Fin.eq (fun k => by rw [polyglotref16_step.f, w1, after_some]) (Fin.ifp (by omega) (Fin.ifp (by omega) ?_))
  simp only [Option.bind_some]
  by_cases h0 : bt s i < 128
  · rw [if_pos h0]; exact Fin.ifp h0 (Fin.const _)
  · rw [if_neg h0]
    refine Fin.ifn h0 ?_
    have jF := step_j0 s i hi4 (bt s i) false
    simp only [Bool.false_eq_true, if_false] at jF
    by_cases h1 : bt s i ≥ 194
    · by_cases h2 : bt s i ≤ 223
      · refine Fin.ifp h1 (Fin.ifp h2 ?_)
        have := step_j0 s i hi4 (bt s i) (aft s (i + 1) 128 191)
        have h1' : 194 ≤ bt s i := h1
        simpa only [h1', h2, true_and] using this
      · rw [if_neg (by rintro ⟨_, h, _⟩; exact h2 h)]
        exact Fin.ifp h1 (Fin.ifn h2 jF)
    · rw [if_neg (by rintro ⟨h, _⟩; exact h1 h)]
      exact Fin.ifn h1 jF
theorem bt_getD (s : ByteArray) (i : Nat) : bt s (i : Int) = ((s.data.toList.getD i 0).toNat : Int) := by
  by_cases h : i < s.size
  · rw [bt_at' h, List.getD_eq_getElem?_getD, List.getElem?_eq_getElem (show i < s.data.toList.length from h)]
    rfl
  · unfold bt
    rw [dif_neg (by omega), List.getD_eq_getElem?_getD, List.getElem?_eq_none (by rw [len_list]; omega)]
    rfl
theorem step_decode (s : ByteArray) (i : Nat) (hi : i < s.size) : stepP s i = if (Lib.decodeL (s.data.toList.drop i)).1 = 65533 ∧ (Lib.decodeL (s.data.toList.drop i)).2 = 1 then 0 else ((Lib.decodeL (s.data.toList.drop i)).2 : Int) := by
  rw [Lib.decodeL_N]
  have hl : (s.data.toList.drop i).length = s.size - i := by rw [List.length_drop, len_list]
  rw [hl, Lib.getD_dropU, Lib.getD_dropU, Lib.getD_dropU, Lib.getD_dropU, Nat.add_zero]
  have b0 := (s.data.toList.getD i 0).toNat_lt
  have b1 := (s.data.toList.getD (i + 1) 0).toNat_lt
  have b2 := (s.data.toList.getD (i + 2) 0).toNat_lt
  have b3 := (s.data.toList.getD (i + 3) 0).toNat_lt
  have e0 := bt_getD s i
  have e1 := bt_getD s (i + 1)
  have e2 := bt_getD s (i + 2)
  have e3 := bt_getD s (i + 3)
  unfold stepP aft
  dsimp only
  rw [e0, e1, e2, e3]
  generalize (s.data.toList.getD i 0).toNat = x0 at *
  generalize (s.data.toList.getD (i + 1) 0).toNat = x1 at *
  generalize (s.data.toList.getD (i + 2) 0).toNat = x2 at *
  generalize (s.data.toList.getD (i + 3) 0).toNat = x3 at *
  have hn : ∃ n, s.size - i = n ∧ 1 ≤ n := ⟨_, rfl, by omega⟩
  obtain ⟨n, hn, hn1⟩ := hn
  have g1 : (i + 1 < s.size) = (1 < n) := propext ⟨fun h => by omega, fun h => by omega⟩
  have g2 : (i + 2 < s.size) = (2 < n) := propext ⟨fun h => by omega, fun h => by omega⟩
  have g3 : (i + 3 < s.size) = (3 < n) := propext ⟨fun h => by omega, fun h => by omega⟩
  simp only [g1, g2, g3, hn, Bool.and_eq_true, decide_eq_true_eq]
  clear e0 e1 e2 e3 g1 g2 g3 hn hi hl
  unfold Lib.decodeN
  by_cases a0 : x0 < 128
  · rw [if_pos (by omega), if_pos a0, if_neg (by rintro ⟨h, _⟩; dsimp only at h; omega)]
    rfl
  rw [if_neg (by omega), if_neg a0]
  by_cases a1 : x0 / 32 = 6 ∧ (1 < n ∧ x1 / 64 = 2)
  · rw [if_pos a1]
    by_cases a2 : x0 % 32 * 64 + x1 % 64 ≥ 128
    · rw [if_pos a2, if_pos (by omega), if_neg (by rintro ⟨_, h⟩; exact absurd h (by simp))]
      rfl
    · rw [if_neg a2, if_neg (by omega), if_neg (by omega), if_neg (by omega), if_pos ⟨rfl, rfl⟩]
  rw [if_neg a1, if_neg (by omega)]
  by_cases a3 : x0 / 16 = 14 ∧ (1 < n ∧ x1 / 64 = 2) ∧ (2 < n ∧ x2 / 64 = 2)
  · rw [if_pos a3]
    by_cases a4 : x0 % 16 * 4096 + x1 % 64 * 64 + x2 % 64 ≥ 2048 ∧ (x0 % 16 * 4096 + x1 % 64 * 64 + x2 % 64 < 55296 ∨ (57344 ≤ x0 % 16 * 4096 + x1 % 64 * 64 + x2 % 64 ∧ x0 % 16 * 4096 + x1 % 64 * 64 + x2 % 64 ≤ 1114111))
    · rw [if_pos a4, if_pos (by omega), if_neg (by rintro ⟨_, h⟩; exact absurd h (by simp))]
      rfl
    · rw [if_neg a4, if_neg (by omega), if_neg (by omega), if_pos ⟨rfl, rfl⟩]
  rw [if_neg a3, if_neg (by omega)]
  by_cases a5 : x0 / 8 = 30 ∧ (1 < n ∧ x1 / 64 = 2) ∧ (2 < n ∧ x2 / 64 = 2) ∧ (3 < n ∧ x3 / 64 = 2)
  · rw [if_pos a5]
    by_cases a6 : x0 % 8 * 262144 + x1 % 64 * 4096 + x2 % 64 * 64 + x3 % 64 ≥ 65536 ∧ (x0 % 8 * 262144 + x1 % 64 * 4096 + x2 % 64 * 64 + x3 % 64 < 55296 ∨ (57344 ≤ x0 % 8 * 262144 + x1 % 64 * 4096 + x2 % 64 * 64 + x3 % 64 ∧ x0 % 8 * 262144 + x1 % 64 * 4096 + x2 % 64 * 64 + x3 % 64 ≤ 1114111))
    · rw [if_pos a6, if_pos (by omega), if_neg (by rintro ⟨_, h⟩; exact absurd h (by simp))]
      rfl
    · rw [if_neg a6, if_neg (by omega), if_pos ⟨rfl, rfl⟩]
  rw [if_neg a5, if_neg (by omega), if_pos ⟨rfl, rfl⟩]
theorem utf8_fin (s : ByteArray) (hs : s.size ≤ 140737488351232) : Fin (fun k => polyglotref16_utf8.f k s) (Lib.validD s.data.toList) := by
  have loop : ∀ (N i : Nat), s.size - i ≤ N → i ≤ s.size → Fin (fun q => polyglotref16_utf8.l0 q s (i : Int)) (Lib.validD (s.data.toList.drop i)) := by
    intro N
    induction N with
    | zero =>
      intro i hi hle
      refine Fin.step (g' := fun _ => some true) (fun q => by simp only [polyglotref16_utf8.l0]; rw [if_neg (by omega)]) ?_
      rw [List.drop_eq_nil_of_le (by rw [len_list]; omega)]
      exact Fin.const _
    | succ N ih =>
      intro i hi hle
      by_cases h : i < s.size
      · refine Fin.step (fun q => by simp only [polyglotref16_utf8.l0]; rw [if_pos (by omega)]) ?_
        refine Fin.bind (step_fin s i h hs) ?_
        have hne : s.data.toList.drop i ≠ [] := by
          intro e
          have := congrArg List.length e
          rw [List.length_drop, len_list, List.length_nil] at this
          omega
        rw [Lib.validD_step _ hne, step_decode s i h]
        by_cases hd : (Lib.decodeL (s.data.toList.drop i)).1 = 65533 ∧ (Lib.decodeL (s.data.toList.drop i)).2 = 1
        · rw [if_pos hd, if_pos hd]
          exact Fin.ifp rfl (Fin.const _)
        · rw [if_neg hd, if_neg hd]
          have hw := Lib.decodeL_width (s.data.toList.drop i)
          have hle2 := Lib.decodeL_le (s.data.toList.drop i) hne
          rw [List.length_drop, len_list] at hle2
          refine Fin.ifn (by omega) ?_
          rw [List.drop_drop, w64 _ (by omega) (by omega)]
          have := ih (i + (Lib.decodeL (s.data.toList.drop i)).2) (by omega) (by omega)
          exact this
      · refine Fin.step (g' := fun _ => some true) (fun q => by simp only [polyglotref16_utf8.l0]; rw [if_neg (by omega)]) ?_
        rw [List.drop_eq_nil_of_le (by rw [len_list]; omega)]
        exact Fin.const _
  have := loop s.size 0 (by omega) (by omega)
  rw [List.drop_zero] at this
  exact Fin.eq (fun k => by rw [polyglotref16_utf8.f]; rfl) this
theorem ascii_fin (s : ByteArray) (hs : s.size ≤ 140737488351232) : Fin (fun k => polyglotref16_ascii.f k s) (ascii s) := by
  have loop : ∀ (d i : Nat), i + d = s.size → Fin (fun q => polyglotref16_ascii.l0 q s (i : Int)) ((s.data.toList.drop i).all fun c => decide (c.toNat < 128)) := by
    intro d
    induction d with
    | zero =>
      intro i hi
      refine Fin.step (g' := fun _ => some true) (fun q => by simp only [polyglotref16_ascii.l0]; rw [if_neg (by omega)]) ?_
      rw [List.drop_eq_nil_of_le (by rw [len_list]; omega)]
      exact Fin.const _
    | succ d ihd =>
      intro i hi
      have h1 : i < s.size := by omega
      refine Fin.step (fun q => by simp only [polyglotref16_ascii.l0]; rw [if_pos (by omega), if_pos (by omega), bt_at' h1, w64s i (by omega)]) ?_
      rw [List.drop_eq_getElem_cons (show i < s.data.toList.length from h1), List.all_cons]
      by_cases hc : ((s.data.toList[i]'h1).toNat : Int) ≥ 128
      · rw [show decide ((s.data.toList[i]'h1).toNat < 128) = false from decide_eq_false (by omega), Bool.false_and]
        exact Fin.ifp hc (Fin.const _)
      · rw [show decide ((s.data.toList[i]'h1).toNat < 128) = true from decide_eq_true (by omega), Bool.true_and]
        exact Fin.ifn hc (ihd (i + 1) (by omega))
  have := loop s.size 0 (by omega)
  rw [List.drop_zero] at this
  exact Fin.eq (fun k => by rw [polyglotref16_ascii.f]; rfl) this
end Go.Proofs.YtekpofpgkokoiaaDoor.P
