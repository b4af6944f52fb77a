/- A part of this claim: what its theorem leans on. -/
import Derived.Test.YtekpofpgkokoiaaDoorZTh
import Derived.Test.YtekpofpgkokoiaaDoorZQ0
import Derived.Test.YtekpofpgkokoiaaDoorZQpolyglotkitaD
set_option linter.unusedVariables false
set_option linter.unusedSimpArgs false
namespace Go.Proofs.YtekpofpgkokoiaaDoor.P
open Go.RowKit Go.Proofs.YtekpofpgkokoiaaDoor.M Go.Proofs.YtekpofpgkokoiaaDoorW.PrintWords
def Fin {α : Type} (g : Nat → Option α) (r : α) : Prop := ∃ K, ∀ k, K ≤ k → g k = some r
theorem Fin.const {α : Type} (r : α) : Fin (fun _ => some r) r := ⟨0, fun _ _ => rfl⟩
theorem Fin.of {α : Type} {g : Nat → Option α} {r : α} (h : ∀ k, g k = some r) : Fin g r := ⟨0, fun k _ => h k⟩
theorem Fin.eq {α : Type} {g g' : Nat → Option α} {r : α} (h : ∀ k, g k = g' k) (hg : Fin g' r) : Fin g r := by
  obtain ⟨K, hK⟩ := hg
  exact ⟨K, fun k hk => by rw [h k, hK k hk]⟩
theorem Fin.bind {α β : Type} {g : Nat → Option α} {h : Nat → α → Option β} {a : α} {r : β} (hg : Fin g a) (hh : Fin (fun k => h k a) r) : Fin (fun k => (g k).bind (h k)) r := by
  obtain ⟨K, hK⟩ := hg
  obtain ⟨L, hL⟩ := hh
  exact ⟨max K L, fun k hk => by show (g k).bind (h k) = _; rw [hK k (by omega)]; exact hL k (by omega)⟩
theorem Fin.step {α : Type} {g g' : Nat → Option α} {r : α} (h : ∀ k, g (k + 1) = g' k) (hg : Fin g' r) : Fin g r := by
  obtain ⟨K, hK⟩ := hg
  exact ⟨K + 1, fun k hk => by
    obtain ⟨q, rfl⟩ : ∃ q, k = q + 1 := ⟨k - 1, by omega⟩
    rw [h q, hK q (by omega)]⟩
theorem Fin.bc {α β : Type} {x : Option α} {h : Nat → α → Option β} {a : α} {r : β} (e : x = some a) (hh : Fin (fun k => h k a) r) : Fin (fun k => x.bind (h k)) r := by
  subst e
  exact hh
theorem Fin.ifp {α : Type} {c : Prop} [Decidable c] {f g : Nat → Option α} {r : α} (hc : c) (h : Fin f r) : Fin (fun k => if c then f k else g k) r := Fin.eq (fun k => if_pos hc) h
theorem Fin.ifn {α : Type} {c : Prop} [Decidable c] {f g : Nat → Option α} {r : α} (hc : ¬ c) (h : Fin g r) : Fin (fun k => if c then f k else g k) r := Fin.eq (fun k => if_neg hc) h
theorem Fin.get {α : Type} {g : Nat → Option α} {r : α} (h : Fin g r) : ∃ k, g k = some r := by
  obtain ⟨K, hK⟩ := h
  exact ⟨K, hK K (Nat.le_refl _)⟩
theorem w64 (n : Int) (h0 : -9223372036854775808 ≤ n) (h1 : n ≤ 9223372036854775807) : wrap64 n = n := by
  unfold wrap64
  omega
theorem w64s (j : Nat) (h : j < 9223372036854775807) : wrap64 ((j : Int) + 1) = ((j + 1 : Nat) : Int) := by
  rw [w64 _ (by omega) (by omega)]
  omega
theorem u64w (n : Int) (h0 : 0 ≤ n) (h1 : n < 18446744073709551616) : IntKind.u64.wrap n = n := by
  simp [IntKind.wrap, IntKind.bits, IntKind.signed]
  omega
theorem rdV_at {l : List Vl} {j : Nat} (h : j < l.length) : rdV l (j : Int) = l[j] := by
  unfold rdV
  rw [show (j : Int).toNat = j by omega, List.getD_eq_getElem?_getD, List.getElem?_eq_getElem h]
  rfl
theorem rd_at {l : List Int} {j : Nat} (h : j < l.length) : rd l (j : Int) = l[j] := by
  unfold rd
  rw [show (j : Int).toNat = j by omega, List.getD_eq_getElem?_getD, List.getElem?_eq_getElem h]
  rfl
theorem bt_at' {s : ByteArray} {j : Nat} (h : j < s.size) : bt s (j : Int) = ((s.data.toList[j]'h).toNat : Int) := by
  unfold bt
  rw [dif_pos (by omega)]
  have : (j : Int).toNat = j := by omega
  simp only [this]
  rfl
theorem toL (s : ByteArray) : s.toList = s.data.toList := Lib.toList_data s
theorem bytes_eq {s t : ByteArray} (h : s.data.toList = t.data.toList) : s = t := by
  cases s; cases t
  congr 1
  exact Array.toList_inj.1 h
theorem ext_list (s : ByteArray) (a b : Nat) : (s.extract a b).data.toList = (s.data.toList.take b).drop a := by
  rw [ByteArray.data_extract, Array.toList_extract, List.extract_eq_take_drop, List.drop_take]
theorem ext_size' (s : ByteArray) (a b : Nat) (h : b ≤ s.size) : (s.extract a b).size = b - a := by
  rw [ByteArray.size_extract]
  omega
theorem vl_eta (x : Vl) : (⟨x.kind, x.n, x.text, x.items⟩ : Vl) = x := by cases x; rfl
inductive Ok : Vl → Prop
  | mk (v : Vl) (hk : -9223372036854775808 ≤ v.kind ∧ v.kind ≤ 9223372036854775807) (h0 : 0 ≤ v.n) (h1 : v.n < 18446744073709551616) (ht : v.text.size ≤ 140737488351232) (hl : v.items.length ≤ 1000000000) (hi : ∀ y ∈ v.items, Ok y) : Ok v
theorem Ok.n0 {v : Vl} (h : Ok v) : 0 ≤ v.n := by cases h; assumption
theorem Ok.n1 {v : Vl} (h : Ok v) : v.n < 18446744073709551616 := by cases h; assumption
theorem Ok.tx {v : Vl} (h : Ok v) : v.text.size ≤ 140737488351232 := by cases h; assumption
theorem Ok.len {v : Vl} (h : Ok v) : v.items.length ≤ 1000000000 := by cases h; assumption
theorem Ok.kd {v : Vl} (h : Ok v) : -9223372036854775808 ≤ v.kind ∧ v.kind ≤ 9223372036854775807 := by cases h; assumption
theorem Ok.its {v : Vl} (h : Ok v) : ∀ y ∈ v.items, Ok y := by cases h; assumption
theorem Ok.okN {v : Vl} (h : Ok v) : okN v.n v.text := ⟨h.n0, h.n1, h.tx⟩
theorem size_item {y v : Vl} (h : y ∈ v.items) : SizeOf.sizeOf y < SizeOf.sizeOf v := by
  obtain ⟨k, n, t, l⟩ := v
  have := List.sizeOf_lt_of_mem h
  simp only [Vl.mk.sizeOf_spec] at *
  omega
theorem Vl_ind {P : Vl → Prop} (h : ∀ v, (∀ y ∈ v.items, P y) → P v) (v : Vl) : P v := by
  have key : ∀ n, ∀ v : Vl, SizeOf.sizeOf v < n → P v := by
    intro n
    induction n with
    | zero => intro v hv; omega
    | succ n ih =>
      intro v hv
      exact h v fun y hy => ih y (by have := size_item hy; omega)
  exact key _ v (Nat.lt_succ_self _)
end Go.Proofs.YtekpofpgkokoiaaDoor.P
set_option linter.unusedVariables false
set_option linter.unusedSimpArgs false
namespace Go.Proofs.YtekpofpgkokoiaaDoor.P
open Go.RowKit Go.Proofs.YtekpofpgkokoiaaDoor.M Go.Proofs.YtekpofpgkokoiaaDoor.Q Go.Proofs.YtekpofpgkokoiaaDoorW.PrintWords
theorem sameL_len : ∀ (l l' : List Vl), sameL l l' = true → l.length = l'.length
  | [], [], _ => rfl
  | x :: l, y :: l', h => by
    rw [sameL, Bool.and_eq_true] at h
    simp [sameL_len l l' h.2]
  | [], _ :: _, h => by simp [sameL] at h
  | _ :: _, [], h => by simp [sameL] at h
theorem same_iff (v : Vl) : ∀ u, sameV v u = true ↔ v = u := by
  induction v using Vl_ind with
  | h v ih =>
    obtain ⟨k, n, t, l⟩ := v
    rintro ⟨k', n', t', l'⟩
    have hl : ∀ l' : List Vl, sameL l l' = true ↔ l = l' := by
      clear k' n' t'
      dsimp only at ih
      clear l'
      induction l with
      | nil => intro l'; cases l' <;> simp [sameL]
      | cons x l ihl =>
        intro l'
        cases l' with
        | nil => simp [sameL]
        | cons y l' =>
          rw [sameL, Bool.and_eq_true, ih x (List.mem_cons_self) y, ihl (fun z hz => ih z (List.mem_cons_of_mem _ hz)) l']
          simp
    rw [sameV]
    simp only [Bool.and_eq_true, decide_eq_true_eq, hl, Vl.mk.injEq, and_assoc]
theorem same_self (v : Vl) : sameV v v = true := (same_iff v v).2 rfl
theorem sameL_drop {l l' : List Vl} {j : Nat} (h : j < l.length) (h' : j < l'.length) : sameL (l.drop j) (l'.drop j) = (sameV l[j] l'[j] && sameL (l.drop (j + 1)) (l'.drop (j + 1))) := by
  rw [List.drop_eq_getElem_cons h, List.drop_eq_getElem_cons h', sameL]
mutual
def cntV : Vl → Nat
  | ⟨_, _, _, l⟩ => 1 + cntL l
def cntL : List Vl → Nat
  | [] => 0
  | x :: l => cntV x + cntL l
end
theorem cntV_eq (x : Vl) : cntV x = 1 + cntL x.items := by cases x; rfl
theorem cntL_mem {l : List Vl} {x : Vl} (h : x ∈ l) : cntV x ≤ cntL l := by
  induction l with
  | nil => cases h
  | cons y l ih =>
    rw [cntL]
    rcases List.mem_cons.1 h with rfl | h
    · omega
    · have := ih h; omega
theorem len_cnt (l : List Vl) : l.length ≤ cntL l := by
  induction l with
  | nil => simp
  | cons x l ih => rw [cntL, cntV_eq]; simp; omega
inductive LightP : Int → Vl → Prop
  | mk (d : Int) (v : Vl) (h0 : 0 ≤ d) (h1 : v.text.size ≤ 400) (hi : ∀ x ∈ v.items, LightP (d - 1) x) : LightP d v
theorem nodes_fin (v : Vl) : ∀ (deep most : Int), -1 ≤ deep → deep ≤ 1000 → 0 ≤ most → most ≤ 1000 → ∃ r : Int, Fin (fun k => polyglotkit_nodes.f k v.kind v.n v.text v.items deep most) r ∧ 1 ≤ r ∧ r ≤ most + 1 + 1000 ∧ (r ≤ most → LightP deep v ∧ (cntV v : Int) ≤ r) ∧ r ≤ most + 1 := by
  induction v using Vl_ind with
  | h v ih =>
    intro deep most d0 d1 m0 m1
    obtain ⟨k, n, t, l⟩ := v
    dsimp only at *
    have jT : ∀ a b c e, Fin (fun q => polyglotkit_nodes.j0 q deep most true a b c e) (most + 1) := fun a b c e =>
      Fin.step (g' := fun _ => some (most + 1)) (fun q => by simp only [polyglotkit_nodes.j0, if_true]; rw [w64 _ (by omega) (by omega)]) (Fin.const _)
    have far : ∃ r : Int, r = most + 1 ∧ 1 ≤ r ∧ r ≤ most + 1 + 1000 ∧ (r ≤ most → LightP deep ⟨k, n, t, l⟩ ∧ (cntV ⟨k, n, t, l⟩ : Int) ≤ r) ∧ r ≤ most + 1 := ⟨most + 1, rfl, by omega, by omega, fun h => absurd h (by omega), by omega⟩
    obtain ⟨_, rfl, far⟩ := far
    by_cases hd : deep < 0
    · exact ⟨_, Fin.step (fun q => by simp only [polyglotkit_nodes.f]; rw [if_pos hd]) (jT _ _ _ _), far⟩
    by_cases hl : (l.length : Int) > most
    · exact ⟨_, Fin.step (fun q => by simp only [polyglotkit_nodes.f]; rw [if_neg hd, if_pos hl]) (jT _ _ _ _), far⟩
    by_cases ht : (t.size : Int) > 400
    · refine ⟨_, Fin.step (fun q => by simp only [polyglotkit_nodes.f]; rw [if_neg hd, if_neg hl]) ?_, far⟩
      rw [decide_eq_true ht]
      exact jT _ _ _ _
    have loop : ∀ (d i : Nat) (r0 : Int), i + d = l.length → 1 ≤ r0 → r0 ≤ most + 1 → ∃ r : Int, Fin (fun q => polyglotkit_nodes.l0 q deep most r0 (i : Int) k n t l) r ∧ r0 ≤ r ∧ r ≤ most + 1 ∧ (r ≤ most → (∀ x ∈ l.drop i, LightP (deep - 1) x) ∧ r0 + (cntL (l.drop i) : Int) ≤ r) := by
      intro d
      induction d with
      | zero =>
        intro i r0 hi h1 h2
        refine ⟨r0, Fin.step (g' := fun _ => some r0) (fun q => by simp only [polyglotkit_nodes.l0]; rw [if_neg (by omega)]) (Fin.const _), by omega, h2, fun _ => ?_⟩
        rw [List.drop_eq_nil_of_le (by omega)]
        exact ⟨fun x hx => (by cases hx), by simp [cntL]⟩
      | succ d ihd =>
        intro i r0 hi h1 h2
        have hil : i < l.length := by omega
        by_cases hm : r0 ≤ most
        · obtain ⟨r1, hf, hr1, _, hr2, hr3⟩ := ih l[i] (List.getElem_mem hil) (deep - 1) (most - r0) (by omega) (by omega) (by omega) (by omega)
          obtain ⟨r, hg, hg1, hg2, hg3⟩ := ihd (i + 1) (r0 + r1) (by omega) (by omega) (by omega)
          refine ⟨r, Fin.step (fun q => by simp only [polyglotkit_nodes.l0]; rw [if_pos (by omega), if_pos hm, if_pos (by omega), rdV_at hil, w64s i (by omega), w64 (deep - 1) (by omega) (by omega), w64 (most - r0) (by omega) (by omega)]) (Fin.bind hf (Fin.eq (fun q => by rw [w64 (r0 + r1) (by omega) (by omega)]) hg)), by omega, hg2, fun hle => ?_⟩
          obtain ⟨a1, a2⟩ := hg3 hle
          obtain ⟨b1, b2⟩ := hr2 (by omega)
          rw [List.drop_eq_getElem_cons hil]
          refine ⟨fun x hx => ?_, by rw [cntL]; omega⟩
          rcases List.mem_cons.1 hx with rfl | hx
          · exact b1
          · exact a1 x hx
        · exact ⟨r0, Fin.step (g' := fun _ => some r0) (fun q => by simp only [polyglotkit_nodes.l0]; rw [if_pos (by omega), if_neg hm]) (Fin.const _), by omega, h2, fun hle => absurd hle (by omega)⟩
    obtain ⟨r, hg, hg1, hg2, hg3⟩ := loop l.length 0 1 (by omega) (by omega) (by omega)
    refine ⟨r, Fin.step (fun q => by simp only [polyglotkit_nodes.f]; rw [if_neg hd, if_neg hl]) ?_, by omega, by omega, fun hle => ?_, hg2⟩
    · rw [decide_eq_false ht]
      exact Fin.step (fun q => by simp only [polyglotkit_nodes.j0, Bool.false_eq_true, if_false]; rfl) hg
    · obtain ⟨a1, a2⟩ := hg3 hle
      rw [List.drop_zero] at a1 a2
      exact ⟨.mk _ _ (by omega) (by dsimp only; omega) a1, by rw [cntV_eq]; dsimp only; omega⟩
theorem light_fin (v : Vl) : ∃ b : Bool, Fin (fun k => polyglotkit_LightValue.f k v.kind v.n v.text v.items) b ∧ (b = true → LightP 6 v ∧ cntV v ≤ 40) := by
  obtain ⟨r, hf, _, _, hr, _⟩ := nodes_fin v 6 40 (by omega) (by omega) (by omega) (by omega)
  refine ⟨decide (r ≤ 40), Fin.eq (fun k => by rw [polyglotkit_LightValue.f]) (Fin.bind hf (Fin.const _)), fun h => ?_⟩
  have := of_decide_eq_true h
  obtain ⟨a, b⟩ := hr this
  exact ⟨a, by omega⟩
end Go.Proofs.YtekpofpgkokoiaaDoor.P
