/- The values, constructors and specification functions of AMQP's layer 16 (plain Lean, no program in sight). -/
import Derived.Lib.ValidU
set_option linter.unusedVariables false
namespace Go.Proofs.YtekpofpgkokoiaaDoor.M

structure Vl where
  kind : Int
  n : Int
  text : ByteArray
  items : List Vl
def zV : Vl := ⟨0, 0, ⟨#[]⟩, []⟩
structure Ct where
  code : Int
  kind : Int
  width : Int
  sized : Bool
  items : Bool
deriving DecidableEq
def zC : Ct := ⟨0, 0, 0, false, false⟩

def bitsN (k : Int) : Int :=
  if k = 2 then 1 else if k = 3 ∨ k = 7 then 8 else if k = 4 ∨ k = 8 then 16
  else if k = 5 ∨ k = 11 ∨ k = 13 ∨ k = 16 ∨ k = 9 then 32 else if k = 6 ∨ k = 12 ∨ k = 14 ∨ k = 10 ∨ k = 17 then 64 else 0
def bitsS (k : Int) : Bool := decide (7 ≤ k ∧ k ≤ 10 ∨ k = 17)
def fitsB (n b : Int) (s : Bool) : Bool := if s then decide (n < 2 ^ (b.toNat - 1) ∨ 2 ^ 64 - 2 ^ (b.toNat - 1) ≤ n) else decide (n < 2 ^ b.toNat)
def textual (k : Int) : Bool := decide (k = 15 ∨ 18 ≤ k ∧ k ≤ 21)
def charOk (n : Int) : Bool := decide (n ≤ 0x10ffff ∧ ¬ (0xd800 ≤ n ∧ n ≤ 0xdfff))
def ascii (s : ByteArray) : Bool := s.data.toList.all fun c => c.toNat < 128
def textE (k : Int) (s : ByteArray) : Int :=
  if k = 20 then (if Lib.validD s.data.toList = true then 0 else 6) else if k = 21 then (if ascii s = true then 0 else 6) else 0
/-- Why a scalar may not be. -/
def checkP (v : Vl) : Int :=
  if v.kind < 1 ∨ 21 < v.kind then 8
  else if fitsB v.n (bitsN v.kind) (bitsS v.kind) = false ∨ (v.kind = 16 ∧ charOk v.n = false) ∨ v.items.length ≠ 0 then 2
  else if textual v.kind = false then (if v.text.size = 0 then 0 else 2)
  else if (v.kind = 15 ∨ v.kind = 18) ∧ v.text.size ≠ 16 then 2
  else if 1048576 < v.text.size then 4
  else textE v.kind v.text

def tableL : List Ct := [
  ⟨0x00, 25, 0, false, true⟩, ⟨0x40, 1, 0, false, false⟩, ⟨0x41, 2, 0, false, false⟩, ⟨0x42, 2, 0, false, false⟩, ⟨0x43, 5, 0, false, false⟩,
  ⟨0x44, 6, 0, false, false⟩, ⟨0x45, 22, 0, false, true⟩, ⟨0x50, 3, 1, false, false⟩, ⟨0x51, 7, 1, false, false⟩, ⟨0x52, 5, 1, false, false⟩,
  ⟨0x53, 6, 1, false, false⟩, ⟨0x54, 9, 1, false, false⟩, ⟨0x55, 10, 1, false, false⟩, ⟨0x56, 2, 1, false, false⟩, ⟨0x60, 4, 2, false, false⟩,
  ⟨0x61, 8, 2, false, false⟩, ⟨0x70, 5, 4, false, false⟩, ⟨0x71, 9, 4, false, false⟩, ⟨0x72, 11, 4, false, false⟩, ⟨0x73, 16, 4, false, false⟩,
  ⟨0x74, 13, 4, false, false⟩, ⟨0x80, 6, 8, false, false⟩, ⟨0x81, 10, 8, false, false⟩, ⟨0x82, 12, 8, false, false⟩, ⟨0x83, 17, 8, false, false⟩,
  ⟨0x84, 14, 8, false, false⟩, ⟨0x94, 15, 16, false, false⟩, ⟨0x98, 18, 16, false, false⟩,
  ⟨0xa0, 19, 1, true, false⟩, ⟨0xa1, 20, 1, true, false⟩, ⟨0xa3, 21, 1, true, false⟩,
  ⟨0xb0, 19, 4, true, false⟩, ⟨0xb1, 20, 4, true, false⟩, ⟨0xb3, 21, 4, true, false⟩,
  ⟨0xc0, 22, 1, true, true⟩, ⟨0xc1, 23, 1, true, true⟩, ⟨0xd0, 22, 4, true, true⟩, ⟨0xd1, 23, 4, true, true⟩,
  ⟨0xe0, 24, 1, true, true⟩, ⟨0xf0, 24, 4, true, true⟩]
def ofO (code : Int) : Option Ct := tableL.find? fun c => decide (c.code = code)
def ofC (code : Int) : Ct := (ofO code).getD zC
def ofB (code : Int) : Bool := (ofO code).isSome
/-- The constructors of each kind, from the one with the fewest bytes on. -/
def codesT : List (List Int) := [[], [0x40], [0x41, 0x42, 0x56], [0x50], [0x60], [0x43, 0x52, 0x70], [0x44, 0x53, 0x80], [0x51], [0x61], [0x54, 0x71], [0x55, 0x81],
  [0x72], [0x82], [0x74], [0x84], [0x94], [0x73], [0x83], [0x98], [0xa0, 0xb0], [0xa1, 0xb1], [0xa3, 0xb3], [0x45, 0xc0, 0xd0], [0xc1, 0xd1], [0xe0, 0xf0], [0x00]]
def codesL (k : Int) : List Int := if k < 0 then [] else codesT.getD k.toNat []
theorem codesL_le (k : Int) : (codesL k).length ≤ 3 := by
  have h : ∀ l ∈ codesT, l.length ≤ 3 := by decide
  unfold codesL
  split
  · simp
  · rw [List.getD_eq_getElem?_getD]
    rcases Nat.lt_or_ge k.toNat codesT.length with hk | hk
    · rw [List.getElem?_eq_getElem hk]
      exact h _ (List.getElem_mem hk)
    · rw [List.getElem?_eq_none hk]
      simp
/-- Can a constructor of its kind say a value that may be? -/
def saysP (c : Ct) (v : Vl) : Bool :=
  if c.code = 0x41 then decide (v.n = 1) else if c.sized = true then decide (c.width = 4) || decide (v.text.size ≤ 255)
  else if c.width = 0 then decide (v.n = 0) else if c.width = 1 then fitsB v.n 8 (bitsS c.kind) else true
def fitsP (code : Int) (v : Vl) : Bool := ofB code && decide ((ofC code).kind = v.kind) && decide (checkP v = 0) && saysP (ofC code) v
def leastP (v : Vl) : Int × Int :=
  if checkP v = 0 then match (codesL v.kind).find? (fun c => fitsP c v) with | some c => (c, 0) | none => (0, 2) else (0, checkP v)
/-- The last w bytes of n, the highest first. -/
def beL (n : Nat) : Nat → List UInt8
  | 0 => []
  | w + 1 => beL (n / 256) w ++ [UInt8.ofNat (n % 256)]
def beB (n w : Int) : ByteArray := ⟨(beL n.toNat w.toNat).toArray⟩
theorem beL_len (n w : Nat) : (beL n w).length = w := by
  induction w generalizing n with
  | zero => rfl
  | succ w ih => simp [beL, ih]
theorem beB_size (n w : Int) : (beB n w).size = w.toNat := by
  show (beL n.toNat w.toNat).toArray.size = _
  rw [List.size_toArray, beL_len]
def putP (code : Int) (v : Vl) : ByteArray × Int :=
  if checkP v = 0 then
    if fitsP code v = true then
      (if (ofC code).sized = true then beB v.text.size (ofC code).width ++ v.text else if (ofC code).width = 16 then v.text else beB v.n (ofC code).width, 0)
    else (⟨#[]⟩, 2)
  else (⟨#[]⟩, checkP v)
end Go.Proofs.YtekpofpgkokoiaaDoor.M
