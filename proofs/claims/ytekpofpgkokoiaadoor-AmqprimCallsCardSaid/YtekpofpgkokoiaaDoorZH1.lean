/- A part of this claim: what its theorem leans on. -/
import Derived.Lib.ValidU
import Derived.Test.YtekpofpgkokoiaaDoorProg
import Derived.Test.YtekpofpgkokoiaaDoorZWWords
import Derived.WalkKit
import Derived.Outline
import Derived.Lib.Hide
import Derived.Shelf.Unicode.DecodeSlow
import Derived.IntWalk
import Derived.WalkLawsBesides
set_option linter.unusedVariables false
namespace Go.Proofs.YtekpofpgkokoiaaDoor.M
structure Vl where
  kind : Int
  n : Int
  text : ByteArray
  items : List Vl
def zV : Vl := ⟨0, 0, ⟨#[]⟩, []⟩
structure Ct where
  code : Int
  kind : Int
  width : Int
  sized : Bool
  items : Bool
deriving DecidableEq
def zC : Ct := ⟨0, 0, 0, false, false⟩
def bitsN (k : Int) : Int :=
  if k = 2 then 1 else if k = 3 ∨ k = 7 then 8 else if k = 4 ∨ k = 8 then 16
  else if k = 5 ∨ k = 11 ∨ k = 13 ∨ k = 16 ∨ k = 9 then 32 else if k = 6 ∨ k = 12 ∨ k = 14 ∨ k = 10 ∨ k = 17 then 64 else 0
def bitsS (k : Int) : Bool := decide (7 ≤ k ∧ k ≤ 10 ∨ k = 17)
def fitsB (n b : Int) (s : Bool) : Bool := if s then decide (n < 2 ^ (b.toNat - 1) ∨ 2 ^ 64 - 2 ^ (b.toNat - 1) ≤ n) else decide (n < 2 ^ b.toNat)
def textual (k : Int) : Bool := decide (k = 15 ∨ 18 ≤ k ∧ k ≤ 21)
def charOk (n : Int) : Bool := decide (n ≤ 0x10ffff ∧ ¬ (0xd800 ≤ n ∧ n ≤ 0xdfff))
def ascii (s : ByteArray) : Bool := s.data.toList.all fun c => c.toNat < 128
def textE (k : Int) (s : ByteArray) : Int :=
  if k = 20 then (if Lib.validD s.data.toList = true then 0 else 6) else if k = 21 then (if ascii s = true then 0 else 6) else 0
def checkP (v : Vl) : Int :=
  if v.kind < 1 ∨ 21 < v.kind then 8
  else if fitsB v.n (bitsN v.kind) (bitsS v.kind) = false ∨ (v.kind = 16 ∧ charOk v.n = false) ∨ v.items.length ≠ 0 then 2
  else if textual v.kind = false then (if v.text.size = 0 then 0 else 2)
  else if (v.kind = 15 ∨ v.kind = 18) ∧ v.text.size ≠ 16 then 2
  else if 1048576 < v.text.size then 4
  else textE v.kind v.text
def tableL : List Ct := [
  ⟨0x00, 25, 0, false, true⟩, ⟨0x40, 1, 0, false, false⟩, ⟨0x41, 2, 0, false, false⟩, ⟨0x42, 2, 0, false, false⟩, ⟨0x43, 5, 0, false, false⟩,
  ⟨0x44, 6, 0, false, false⟩, ⟨0x45, 22, 0, false, true⟩, ⟨0x50, 3, 1, false, false⟩, ⟨0x51, 7, 1, false, false⟩, ⟨0x52, 5, 1, false, false⟩,
  ⟨0x53, 6, 1, false, false⟩, ⟨0x54, 9, 1, false, false⟩, ⟨0x55, 10, 1, false, false⟩, ⟨0x56, 2, 1, false, false⟩, ⟨0x60, 4, 2, false, false⟩,
  ⟨0x61, 8, 2, false, false⟩, ⟨0x70, 5, 4, false, false⟩, ⟨0x71, 9, 4, false, false⟩, ⟨0x72, 11, 4, false, false⟩, ⟨0x73, 16, 4, false, false⟩,
  ⟨0x74, 13, 4, false, false⟩, ⟨0x80, 6, 8, false, false⟩, ⟨0x81, 10, 8, false, false⟩, ⟨0x82, 12, 8, false, false⟩, ⟨0x83, 17, 8, false, false⟩,
  ⟨0x84, 14, 8, false, false⟩, ⟨0x94, 15, 16, false, false⟩, ⟨0x98, 18, 16, false, false⟩,
  ⟨0xa0, 19, 1, true, false⟩, ⟨0xa1, 20, 1, true, false⟩, ⟨0xa3, 21, 1, true, false⟩,
  ⟨0xb0, 19, 4, true, false⟩, ⟨0xb1, 20, 4, true, false⟩, ⟨0xb3, 21, 4, true, false⟩,
  ⟨0xc0, 22, 1, true, true⟩, ⟨0xc1, 23, 1, true, true⟩, ⟨0xd0, 22, 4, true, true⟩, ⟨0xd1, 23, 4, true, true⟩,
  ⟨0xe0, 24, 1, true, true⟩, ⟨0xf0, 24, 4, true, true⟩]
def ofO (code : Int) : Option Ct := tableL.find? fun c => decide (c.code = code)
def ofC (code : Int) : Ct := (ofO code).getD zC
def ofB (code : Int) : Bool := (ofO code).isSome
def codesT : List (List Int) := [[], [0x40], [0x41, 0x42, 0x56], [0x50], [0x60], [0x43, 0x52, 0x70], [0x44, 0x53, 0x80], [0x51], [0x61], [0x54, 0x71], [0x55, 0x81],
  [0x72], [0x82], [0x74], [0x84], [0x94], [0x73], [0x83], [0x98], [0xa0, 0xb0], [0xa1, 0xb1], [0xa3, 0xb3], [0x45, 0xc0, 0xd0], [0xc1, 0xd1], [0xe0, 0xf0], [0x00]]
def codesL (k : Int) : List Int := if k < 0 then [] else codesT.getD k.toNat []
theorem codesL_le (k : Int) : (codesL k).length ≤ 3 := by
  have h : ∀ l ∈ codesT, l.length ≤ 3 := by decide
  unfold codesL
  split
  · simp
  · rw [List.getD_eq_getElem?_getD]
    rcases Nat.lt_or_ge k.toNat codesT.length with hk | hk
    · rw [List.getElem?_eq_getElem hk]
      exact h _ (List.getElem_mem hk)
    · rw [List.getElem?_eq_none hk]
      simp
def saysP (c : Ct) (v : Vl) : Bool :=
  if c.code = 0x41 then decide (v.n = 1) else if c.sized = true then decide (c.width = 4) || decide (v.text.size ≤ 255)
  else if c.width = 0 then decide (v.n = 0) else if c.width = 1 then fitsB v.n 8 (bitsS c.kind) else true
def fitsP (code : Int) (v : Vl) : Bool := ofB code && decide ((ofC code).kind = v.kind) && decide (checkP v = 0) && saysP (ofC code) v
def leastP (v : Vl) : Int × Int :=
  if checkP v = 0 then match (codesL v.kind).find? (fun c => fitsP c v) with | some c => (c, 0) | none => (0, 2) else (0, checkP v)
def beL (n : Nat) : Nat → List UInt8
  | 0 => []
  | w + 1 => beL (n / 256) w ++ [UInt8.ofNat (n % 256)]
def beB (n w : Int) : ByteArray := ⟨(beL n.toNat w.toNat).toArray⟩
theorem beL_len (n w : Nat) : (beL n w).length = w := by
  induction w generalizing n with
  | zero => rfl
  | succ w ih => simp [beL, ih]
theorem beB_size (n w : Int) : (beB n w).size = w.toNat := by
  show (beL n.toNat w.toNat).toArray.size = _
  rw [List.size_toArray, beL_len]
def putP (code : Int) (v : Vl) : ByteArray × Int :=
  if checkP v = 0 then
    if fitsP code v = true then
      (if (ofC code).sized = true then beB v.text.size (ofC code).width ++ v.text else if (ofC code).width = 16 then v.text else beB v.n (ofC code).width, 0)
    else (⟨#[]⟩, 2)
  else (⟨#[]⟩, checkP v)
end Go.Proofs.YtekpofpgkokoiaaDoor.M
set_option linter.unusedVariables false
set_option linter.unusedSimpArgs false
namespace Go.Proofs.YtekpofpgkokoiaaDoor.M
open Go.RowKit Go.Proofs.YtekpofpgkokoiaaDoorW.PrintWords
def FV (d : Kd Vl) : Kd Vl := Kd.iso (Kd.pair (Kd.int .i64) (Kd.pair (Kd.int .u64) (Kd.pair Kd.string (Kd.slice 25 d)))) (fun x : Vl => (x.kind, x.n, x.text, x.items))
theorem monoV : Kd.Mono FV := Kd.mono_iso _ (Kd.mono_pair (Kd.mono_const _) (Kd.mono_pair (Kd.mono_const _) (Kd.mono_pair (Kd.mono_const _) (Kd.mono_slice 25 Kd.mono_id))))
theorem subV : Kd.Sub FV [25] := Kd.sub_iso _ (Kd.sub_pair (Kd.sub_const _ (by decide)) (Kd.sub_pair (Kd.sub_const _ (by decide)) (Kd.sub_pair (Kd.sub_const _ (by decide)) (Kd.sub_slice 25 (by decide) Kd.sub_id))))
theorem szV : ∀ n, (Kd.upto FV 4 [25] n).sz = 4 := Kd.upto_sz (fun _ => rfl)
def kV : Kd Vl := Kd.fix FV 4 [25] szV (Kd.upto_E subV)
theorem kV_open {w : World} {x : Vl} {cs : List Value} (h : kV.K w x cs) : ∃ A3 c3, cs = [.int .i64 x.kind, .int .u64 x.n, .string x.text, .slice A3 x.items.length c3] ∧ x.items.length ≤ c3 ∧ kV.C w A3 x.items.length x.items := by
  obtain ⟨n, h⟩ := h
  cases n with
  | zero => exact h.elim
  | succ n =>
    obtain ⟨_, _, rfl, rfl, ⟨_, _, rfl, rfl, ⟨_, _, rfl, rfl, ⟨A3, c3, rfl, l3, g3⟩⟩⟩⟩ := h
    exact ⟨A3, c3, rfl, l3, Kd.fix_C g3⟩
theorem kV_mk (w : World) (x : Vl) {A3 : Option Addr} {c3 : Nat} (l3 : x.items.length ≤ c3) (g3 : kV.C w A3 x.items.length x.items) : kV.K w x [.int .i64 x.kind, .int .u64 x.n, .string x.text, .slice A3 x.items.length c3] := by
  obtain ⟨n3, q3⟩ := Kd.fix_C_back monoV g3
  have r3 := Kd.upto_C_le monoV szV (show n3 ≤ n3 by omega) q3
  exact ⟨n3 + 1, ⟨[.int .i64 x.kind], [.int .u64 x.n, .string x.text, .slice A3 x.items.length c3], rfl, rfl, ⟨[.int .u64 x.n], [.string x.text, .slice A3 x.items.length c3], rfl, rfl, ⟨[.string x.text], [.slice A3 x.items.length c3], rfl, rfl, ⟨A3, c3, rfl, l3, r3⟩⟩⟩⟩⟩
theorem kV_mkM (w : World) (base : Nat) (ok : Nat → Prop) (x : Vl) {v3 : Value} (g3 : kV.R 25 w base ok v3 x.items) : kV.M w base ok x [.int .i64 x.kind, .int .u64 x.n, .string x.text, v3] := by
  obtain ⟨n3, q3⟩ := Kd.fix_R_back monoV g3
  have r3 := Kd.upto_R_le monoV szV (show n3 ≤ n3 by omega) q3
  exact ⟨n3 + 1, ⟨[.int .i64 x.kind], [.int .u64 x.n, .string x.text, v3], rfl, rfl, ⟨[.int .u64 x.n], [.string x.text, v3], rfl, rfl, ⟨[.string x.text], [v3], rfl, rfl, ⟨v3, rfl, r3⟩⟩⟩⟩⟩
def rdV (xs : List Vl) (i : Int) : Vl := xs.getD i.toNat zV
theorem atV {w : World} {A : Option Addr} {n : Nat} {xs : List Vl} (h : Kd.C kV w A n xs) (i : Int) (h0 : 0 ≤ i) (h1 : i < n) : ∃ ad A3 c3, A = some ad ∧ w.cell? (ad.add (i.toNat * 4)) = some (.int .i64 (rdV xs i).kind) ∧ w.cell? ⟨(ad.add (i.toNat * 4)).block, (ad.add (i.toNat * 4)).off + 1, none⟩ = some (.int .u64 (rdV xs i).n) ∧ w.cell? ⟨(ad.add (i.toNat * 4)).block, (ad.add (i.toNat * 4)).off + 2, none⟩ = some (.string (rdV xs i).text) ∧ w.cell? ⟨(ad.add (i.toNat * 4)).block, (ad.add (i.toNat * 4)).off + 3, none⟩ = some (.slice A3 (rdV xs i).items.length c3) ∧ (rdV xs i).items.length ≤ c3 ∧ kV.C w A3 (rdV xs i).items.length (rdV xs i).items := by
  obtain ⟨ad, c, e, _, hK, hc0⟩ := Kd.C_get h zV i h0 h1
  have hc : ∀ j u, c[j]? = some u → w.cell? (ad.add (i.toNat * 4 + j)) = some u := hc0
  obtain ⟨A3, c3, rfl, l3, g3⟩ := kV_open hK
  exact ⟨ad, A3, c3, e, hc 0 _ rfl, by rw [← add_field _ _ 1 (by omega)]; exact hc 1 _ rfl, by rw [← add_field _ _ 2 (by omega)]; exact hc 2 _ rfl, by rw [← add_field _ _ 3 (by omega)]; exact hc 3 _ rfl, l3, g3⟩
def kC : Kd Ct := Kd.iso (Kd.pair (Kd.int .i64) (Kd.pair (Kd.int .i64) (Kd.pair (Kd.int .i64) (Kd.pair Kd.bool Kd.bool)))) (fun x : Ct => (x.code, x.kind, x.width, x.sized, x.items))
theorem kC_open {w : World} {x : Ct} {cs : List Value} (h : kC.K w x cs) : cs = [.int .i64 x.code, .int .i64 x.kind, .int .i64 x.width, .bool x.sized, .bool x.items] := by
  obtain ⟨_, _, rfl, rfl, ⟨_, _, rfl, rfl, ⟨_, _, rfl, rfl, ⟨_, _, rfl, rfl, rfl⟩⟩⟩⟩ := h
  exact rfl
theorem kC_mkM (w : World) (base : Nat) (ok : Nat → Prop) (x : Ct)  : kC.M w base ok x [.int .i64 x.code, .int .i64 x.kind, .int .i64 x.width, .bool x.sized, .bool x.items] := ⟨[.int .i64 x.code], [.int .i64 x.kind, .int .i64 x.width, .bool x.sized, .bool x.items], rfl, rfl, ⟨[.int .i64 x.kind], [.int .i64 x.width, .bool x.sized, .bool x.items], rfl, rfl, ⟨[.int .i64 x.width], [.bool x.sized, .bool x.items], rfl, rfl, ⟨[.bool x.sized], [.bool x.items], rfl, rfl, rfl⟩⟩⟩⟩
def rdC (xs : List Ct) (i : Int) : Ct := xs.getD i.toNat zC
theorem atC {w : World} {A : Option Addr} {n : Nat} {xs : List Ct} (h : Kd.C kC w A n xs) (i : Int) (h0 : 0 ≤ i) (h1 : i < n) : ∃ ad , A = some ad ∧ w.cell? (ad.add (i.toNat * 5)) = some (.int .i64 (rdC xs i).code) ∧ w.cell? ⟨(ad.add (i.toNat * 5)).block, (ad.add (i.toNat * 5)).off + 1, none⟩ = some (.int .i64 (rdC xs i).kind) ∧ w.cell? ⟨(ad.add (i.toNat * 5)).block, (ad.add (i.toNat * 5)).off + 2, none⟩ = some (.int .i64 (rdC xs i).width) ∧ w.cell? ⟨(ad.add (i.toNat * 5)).block, (ad.add (i.toNat * 5)).off + 3, none⟩ = some (.bool (rdC xs i).sized) ∧ w.cell? ⟨(ad.add (i.toNat * 5)).block, (ad.add (i.toNat * 5)).off + 4, none⟩ = some (.bool (rdC xs i).items) := by
  obtain ⟨ad, c, e, _, hK, hc0⟩ := Kd.C_get h zC i h0 h1
  have hc : ∀ j u, c[j]? = some u → w.cell? (ad.add (i.toNat * 5 + j)) = some u := hc0
  obtain rfl := kC_open hK
  exact ⟨ad, e, hc 0 _ rfl, by rw [← add_field _ _ 1 (by omega)]; exact hc 1 _ rfl, by rw [← add_field _ _ 2 (by omega)]; exact hc 2 _ rfl, by rw [← add_field _ _ 3 (by omega)]; exact hc 3 _ rfl, by rw [← add_field _ _ 4 (by omega)]; exact hc 4 _ rfl⟩
theorem infoV : (Tryd.prog.info? 25).map (fun i => (i.zero, i.size, i.bytes)) = some (some (.agg #[(.int .i64 0), (.int .u64 0), (.string ⟨#[]⟩), (.slice none 0 0)]), 4, 56) := by kernel_rfl
theorem infoC : (Tryd.prog.info? 34).map (fun i => (i.zero, i.size, i.bytes)) = some (some (.agg #[(.int .i64 0), (.int .i64 0), (.int .i64 0), (.bool false), (.bool false)]), 5, 32) := by kernel_rfl
theorem infoInt : (Tryd.prog.info? 3).map (fun i => (i.zero, i.size, i.bytes)) = some (some (.int .i64 0), 1, 8) := by kernel_rfl
theorem ret_i {a b : Int} (h : a = b) : Ending.returned (.int .i64 a) = .returned (.int .i64 b) := by rw [h]
theorem ret_b {a b : Bool} (h : a = b) : Ending.returned (.bool a) = .returned (.bool b) := by rw [h]
theorem ret_s {a b : ByteArray} (h : a = b) : Ending.returned (.string a) = .returned (.string b) := by rw [h]
theorem ret_ib {a a' : Int} {b b' : Bool} (h : a = a') (h2 : b = b') : Ending.returned (.tuple #[.int .i64 a, .bool b]) = .returned (.tuple #[.int .i64 a', .bool b']) := by rw [h, h2]
theorem ret_ii {a a' b b' : Int} (h : a = a') (h2 : b = b') : Ending.returned (.tuple #[.int .i64 a, .int .i64 b]) = .returned (.tuple #[.int .i64 a', .int .i64 b']) := by rw [h, h2]
theorem empty_toList (s : ByteArray) : s.toList.isEmpty = decide (s.size = 0) := by
  rw [Lib.toList_data, show s.size = s.data.toList.length from rfl]
  generalize s.data.toList = l
  cases l <;> simp
theorem put5 {w : World} {g t : Nat} {a0 a1 a2 a3 a4 : Value} (h : w.heap[g]? = some (.cells #[a0, a1, a2, a3, a4] t (0, 0))) (v0 v1 v2 v3 v4 : Value) :
    (((((w.setCell ⟨g, 0, none⟩ v0).setCell ⟨g, 1, none⟩ v1).setCell ⟨g, 2, none⟩ v2).setCell ⟨g, 3, none⟩ v3).setCell ⟨g, 4, none⟩ v4).heap[g]? = some (.cells #[v0, v1, v2, v3, v4] t (0, 0)) := by
  refine blk_put (cs := #[v0, v1, v2, v3, a4]) ?_ 4 _ rfl
  refine blk_put (cs := #[v0, v1, v2, a3, a4]) ?_ 3 _ rfl
  refine blk_put (cs := #[v0, v1, a2, a3, a4]) ?_ 2 _ rfl
  refine blk_put (cs := #[v0, a1, a2, a3, a4]) ?_ 1 _ rfl
  exact blk_put h 0 _ rfl
theorem put4 {w : World} {g t : Nat} {a0 a1 a2 a3 : Value} (h : w.heap[g]? = some (.cells #[a0, a1, a2, a3] t (0, 0))) (v0 v1 v2 v3 : Value) :
    ((((w.setCell ⟨g, 0, none⟩ v0).setCell ⟨g, 1, none⟩ v1).setCell ⟨g, 2, none⟩ v2).setCell ⟨g, 3, none⟩ v3).heap[g]? = some (.cells #[v0, v1, v2, v3] t (0, 0)) := by
  refine blk_put (cs := #[v0, v1, v2, a3]) ?_ 3 _ rfl
  refine blk_put (cs := #[v0, v1, a2, a3]) ?_ 2 _ rfl
  refine blk_put (cs := #[v0, a1, a2, a3]) ?_ 1 _ rfl
  exact blk_put h 0 _ rfl
theorem below_put4 {w w1 : World} (h : Below w.heap.size w w1) {g : Nat} (hg : w.heap.size ≤ g) (v0 v1 v2 v3 : Value) : Below w.heap.size w ((((w1.setCell ⟨g, 0, none⟩ v0).setCell ⟨g, 1, none⟩ v1).setCell ⟨g, 2, none⟩ v2).setCell ⟨g, 3, none⟩ v3) :=
  (((h.setCell hg v0).setCell hg v1).setCell hg v2).setCell hg v3
theorem below_put5 {w w1 : World} (h : Below w.heap.size w w1) {g : Nat} (hg : w.heap.size ≤ g) (v0 v1 v2 v3 v4 : Value) : Below w.heap.size w (((((w1.setCell ⟨g, 0, none⟩ v0).setCell ⟨g, 1, none⟩ v1).setCell ⟨g, 2, none⟩ v2).setCell ⟨g, 3, none⟩ v3).setCell ⟨g, 4, none⟩ v4) :=
  (below_put4 h hg v0 v1 v2 v3).setCell hg v4
theorem slice_next (w : World) (o : Obj) : Value.slice (some ⟨w.heap.size + 1, 0, none⟩) 1 1 = .slice (some ⟨(w.alloc o).heap.size, 0, none⟩) 1 1 := by simp
def Tb (w : World) : Prop := Lib.Utf8Tabs 0 1 w
theorem Tb.below {w w' : World} (h : Tb w) (hb : Below w.heap.size w w') : Tb w' := Utf8Tabs_below h hb
theorem Tb.alloc {w : World} (h : Tb w) (o : Obj) : Tb (w.alloc o) := h.below (below_alloc (Below.refl _ _) o)
theorem below_new (w : World) (o : Obj) : Below w.heap.size w (w.alloc o) := below_alloc (Below.refl _ _) o
theorem new_lt {w w1 : World} {o : Obj} (hb : Below (w.alloc o).heap.size (w.alloc o) w1) : w.heap.size < w1.heap.size := by
  have h := hb.size
  have e : (w.alloc o).heap.size = w.heap.size + 1 := by simp
  omega
theorem kept_cells {w w1 : World} (hb : Below w.heap.size w w1) : (∀ b o, b < w.heap.size → w1.cell? ⟨b, o, none⟩ = w.cell? ⟨b, o, none⟩) ∧ (∀ b o, b < w.heap.size → w1.frozen? ⟨b, o, none⟩ = w.frozen? ⟨b, o, none⟩) :=
  ⟨fun b o h => hb.cell (p := ⟨b, o, none⟩) h, fun b o h => hb.frozen (p := ⟨b, o, none⟩) h⟩
end Go.Proofs.YtekpofpgkokoiaaDoor.M
