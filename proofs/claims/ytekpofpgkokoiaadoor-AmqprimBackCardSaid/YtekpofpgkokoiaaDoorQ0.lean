-- PRINTED by print.py (a twelfth state) out of the translation. Not trusted: Lean checks it.
import Derived.Test.YtekpofpgkokoiaaDoorProg
import Derived.Test.YtekpofpgkokoiaaDoorH3
import Derived.Test.YtekpofpgkokoiaaDoorWWords
import Derived.Test.YtekpofpgkokoiaaDoorWLast
import Derived.Test.YtekpofpgkokoiaaDoorWTab
import Derived.Test.YtekpofpgkokoiaaDoorWQPut
import Derived.Test.YtekpofpgkokoiaaDoorWApart
import Derived.Test.YtekpofpgkokoiaaDoorWArr
import Derived.Test.YtekpofpgkokoiaaDoorWZeros
import Derived.Test.YtekpofpgkokoiaaDoorWFoot
import Derived.Test.YtekpofpgkokoiaaDoorWKept
import Derived.Test.YtekpofpgkokoiaaDoorWShare
import Derived.Test.YtekpofpgkokoiaaDoorWN
import Derived.Test.YtekpofpgkokoiaaDoorWRepsOne
import Derived.Test.YtekpofpgkokoiaaDoorWGuard
import Derived.Test.YtekpofpgkokoiaaDoorWNEv
import Derived.Test.YtekpofpgkokoiaaDoorWMore
namespace Go.Proofs.YtekpofpgkokoiaaDoor.Q
open Go.RowKit Go.Proofs.YtekpofpgkokoiaaDoor.M Go.Proofs.YtekpofpgkokoiaaDoorW.PrintWords Go.Proofs.YtekpofpgkokoiaaDoorW.PrintLast Go.Proofs.YtekpofpgkokoiaaDoorW.PrintMore
attribute [local go_sem] max2_int min2_int max_two min_two max_three min_three max_four min_four   -- for this text's walks alone
set_option linter.unusedVariables false
set_option linter.unusedSimpArgs false



def errW : Option Int → Value
  | none => .nilIface
  | some c => .iface 0 (.int .i64 c)
theorem errW_none : errW none = .nilIface := rfl
theorem errW_some (c : Int) : errW (some c) = .iface 0 (.int .i64 c) := rfl

theorem info3 : (Tryd.prog.info? 3).map (fun i => (i.zero, i.size, i.bytes)) = some (some (.int .i64 0), 1, 8) := by kernel_rfl
theorem info5 : (Tryd.prog.info? 5).map (fun i => (i.zero, i.size, i.bytes)) = some (some (.int .u8 0), 1, 1) := by kernel_rfl
theorem info9 : (Tryd.prog.info? 9).map (fun i => (i.zero, i.size, i.bytes)) = some (some (.string ⟨#[]⟩), 1, 16) := by kernel_rfl
theorem infoV : (Tryd.prog.info? 25).map (fun i => (i.zero, i.size, i.bytes)) = some (some (.agg #[(.int .i64 0), (.int .u64 0), (.string ⟨#[]⟩), (.slice none 0 0)]), 4, 56) := by kernel_rfl
theorem info30 : (Tryd.prog.info? 30).map (fun i => (i.zero, i.size, i.bytes)) = some (some (.int .i64 0), 1, 8) := by kernel_rfl
theorem infoFo : (Tryd.prog.info? 132).map (fun i => (i.zero, i.size, i.bytes)) = some (some (.agg #[(.int .i64 0), (.int .u64 0), (.string ⟨#[]⟩), (.slice none 0 0), (.slice none 0 0), (.int .i64 0), (.int .i64 0)]), 7, 96) := by kernel_rfl
-- the values' own types
/-! #### struct type 25, nested in itself -/
theorem kV_heap : Kd.Heap kV := Kd.heap_fix (fun _ h_ => Kd.heap_iso _ (Kd.heap_pair (Kd.heap_int .i64) (Kd.heap_pair (Kd.heap_int .u64) (Kd.heap_pair Kd.heap_string (Kd.heap_slice 25 h_)))))
theorem kV_openF {W : World} {ok : Nat → Prop} {x : Vl} {cs : List Value} (h : Kd.FK kV W ok x cs) : ∃ A3 c3, cs = [.int .i64 x.kind, .int .u64 x.n, .string x.text, .slice A3 x.items.length c3] ∧ x.items.length ≤ c3 ∧ Kd.F kV W ok A3 x.items.length x.items := by
  obtain ⟨A3, c3, rfl, l3, _⟩ := kV_open (Kd.FK_now h)
  exact ⟨A3, c3, rfl, l3, (fun W' hW => by obtain ⟨A3_, c3_, he, l3_, g3_⟩ := kV_open (h W' hW); injection (Option.some.inj (show some (Value.slice A3 x.items.length c3) = some (Value.slice A3_ x.items.length c3_) from congrArg (fun l => l[3]?) he)) with ha_ _ _; rw [ha_]; exact g3_)⟩
theorem kV_mkF (W : World) (ok : Nat → Prop) (x : Vl) {A3 : Option Addr} {c3 : Nat} (l3 : x.items.length ≤ c3) (g3 : Kd.F kV W ok A3 x.items.length x.items) : Kd.FK kV W ok x [.int .i64 x.kind, .int .u64 x.n, .string x.text, .slice A3 x.items.length c3] := fun W2 hW => kV_mk W2 x l3 (g3 W2 hW)
def rd_L_i64 (xs : List (List Int)) (i : Int) : (List Int) := xs.getD i.toNat ([] : List Int)
theorem at_L_i64 {w : World} {A : Option Addr} {n : Nat} {xs : List (List Int)} (h : Kd.C (Kd.slice 3 (Kd.int .i64)) w A n xs) (i : Int) (h0 : 0 ≤ i) (h1 : i < n) : ∃ ad A0 c0, A = some ad ∧ w.cell? (ad.add i.toNat) = some (.slice A0 (rd_L_i64 xs i).length c0) ∧ (rd_L_i64 xs i).length ≤ c0 ∧ (Kd.int .i64).C w A0 (rd_L_i64 xs i).length (rd_L_i64 xs i) := by
  obtain ⟨ad, c, e, _, hK, hc0⟩ := Kd.C_get h ([] : List Int) i h0 h1
  have hc : ∀ j u, c[j]? = some u → w.cell? (ad.add (i.toNat * 1 + j)) = some u := hc0
  obtain ⟨A0, c0, rfl, l0, g0⟩ := hK
  exact ⟨ad, A0, c0, e, by have hq := hc 0 _ rfl; rwa [Nat.mul_one, Nat.add_zero] at hq, l0, g0⟩

/-! #### struct type 34 -/
theorem kC_heap : Kd.Heap kC := Kd.heap_iso _ (Kd.heap_pair (Kd.heap_int .i64) (Kd.heap_pair (Kd.heap_int .i64) (Kd.heap_pair (Kd.heap_int .i64) (Kd.heap_pair Kd.heap_bool Kd.heap_bool))))
theorem kC_mkF (W : World) (ok : Nat → Prop) (x : Ct) : Kd.FK kC W ok x [.int .i64 x.code, .int .i64 x.kind, .int .i64 x.width, .bool x.sized, .bool x.items] := fun W2 _ => kC_mk W2 x
def rd_L_st_34 (xs : List (List Ct)) (i : Int) : (List Ct) := xs.getD i.toNat ([] : List Ct)
theorem at_L_st_34 {w : World} {A : Option Addr} {n : Nat} {xs : List (List Ct)} (h : Kd.C (Kd.slice 34 kC) w A n xs) (i : Int) (h0 : 0 ≤ i) (h1 : i < n) : ∃ ad A0 c0, A = some ad ∧ w.cell? (ad.add i.toNat) = some (.slice A0 (rd_L_st_34 xs i).length c0) ∧ (rd_L_st_34 xs i).length ≤ c0 ∧ kC.C w A0 (rd_L_st_34 xs i).length (rd_L_st_34 xs i) := by
  obtain ⟨ad, c, e, _, hK, hc0⟩ := Kd.C_get h ([] : List Ct) i h0 h1
  have hc : ∀ j u, c[j]? = some u → w.cell? (ad.add (i.toNat * 1 + j)) = some u := hc0
  obtain ⟨A0, c0, rfl, l0, g0⟩ := hK
  exact ⟨ad, A0, c0, e, by have hq := hc 0 _ rfl; rwa [Nat.mul_one, Nat.add_zero] at hq, l0, g0⟩

/-! #### struct type 68 -/
structure Lm where
  packet : Int
  depth : Int
def zLm : Lm := ⟨(0 : Int), (0 : Int)⟩
def kLm : Kd Lm := Kd.iso (Kd.pair (Kd.int .i64) (Kd.int .i64)) (fun x : Lm => (x.packet, x.depth))
theorem kLm_heap : Kd.Heap kLm := Kd.heap_iso _ (Kd.heap_pair (Kd.heap_int .i64) (Kd.heap_int .i64))
theorem kLm_open {w : World} {x : Lm} {cs : List Value} (h : kLm.K w x cs) : cs = [.int .i64 x.packet, .int .i64 x.depth] := by
  obtain ⟨_, _, rfl, rfl, rfl⟩ := h
  exact rfl
theorem kLm_openM {w : World} {base : Nat} {ok : Nat → Prop} {x : Lm} {cs : List Value} (h : kLm.M w base ok x cs) : cs = [.int .i64 x.packet, .int .i64 x.depth] := by
  obtain ⟨_, _, rfl, rfl, rfl⟩ := h
  exact rfl
theorem kLm_mk (w : World) (x : Lm)  : kLm.K w x [.int .i64 x.packet, .int .i64 x.depth] := ⟨[.int .i64 x.packet], [.int .i64 x.depth], rfl, rfl, rfl⟩
theorem kLm_mkM (w : World) (base : Nat) (ok : Nat → Prop) (x : Lm)  : kLm.M w base ok x [.int .i64 x.packet, .int .i64 x.depth] := ⟨[.int .i64 x.packet], [.int .i64 x.depth], rfl, rfl, rfl⟩
theorem kLm_mkF (W : World) (ok : Nat → Prop) (x : Lm) : Kd.FK kLm W ok x [.int .i64 x.packet, .int .i64 x.depth] := fun W2 _ => kLm_mk W2 x
def rdLm (xs : List Lm) (i : Int) : Lm := xs.getD i.toNat zLm
theorem atLm {w : World} {A : Option Addr} {n : Nat} {xs : List Lm} (h : Kd.C kLm w A n xs) (i : Int) (h0 : 0 ≤ i) (h1 : i < n) : ∃ ad , A = some ad ∧ w.cell? (ad.add (i.toNat * 2)) = some (.int .i64 (rdLm xs i).packet) ∧ w.cell? ⟨(ad.add (i.toNat * 2)).block, (ad.add (i.toNat * 2)).off + 1, none⟩ = some (.int .i64 (rdLm xs i).depth) := by
  obtain ⟨ad, c, e, _, hK, hc0⟩ := Kd.C_get h zLm i h0 h1
  have hc : ∀ j u, c[j]? = some u → w.cell? (ad.add (i.toNat * 2 + j)) = some u := hc0
  obtain rfl := kLm_open hK
  exact ⟨ad, e, hc 0 _ rfl, by rw [← add_field _ _ 1 (by omega)]; exact hc 1 _ rfl⟩

def rd_L_st_25 (xs : List (List Vl)) (i : Int) : (List Vl) := xs.getD i.toNat ([] : List Vl)
theorem at_L_st_25 {w : World} {A : Option Addr} {n : Nat} {xs : List (List Vl)} (h : Kd.C (Kd.slice 25 kV) w A n xs) (i : Int) (h0 : 0 ≤ i) (h1 : i < n) : ∃ ad A0 c0, A = some ad ∧ w.cell? (ad.add i.toNat) = some (.slice A0 (rd_L_st_25 xs i).length c0) ∧ (rd_L_st_25 xs i).length ≤ c0 ∧ kV.C w A0 (rd_L_st_25 xs i).length (rd_L_st_25 xs i) := by
  obtain ⟨ad, c, e, _, hK, hc0⟩ := Kd.C_get h ([] : List Vl) i h0 h1
  have hc : ∀ j u, c[j]? = some u → w.cell? (ad.add (i.toNat * 1 + j)) = some u := hc0
  obtain ⟨A0, c0, rfl, l0, g0⟩ := hK
  exact ⟨ad, A0, c0, e, by have hq := hc 0 _ rfl; rwa [Nat.mul_one, Nat.add_zero] at hq, l0, g0⟩

/-! #### struct type 119 -/
structure Fr where
  type : Int
  channel : Int
  ext : ByteArray
  values : (List Vl)
def zFr : Fr := ⟨(0 : Int), (0 : Int), (⟨#[]⟩ : ByteArray), ([] : List Vl)⟩
def kFr : Kd Fr := Kd.iso (Kd.pair (Kd.int .i64) (Kd.pair (Kd.int .i64) (Kd.pair Kd.string (Kd.slice 25 kV)))) (fun x : Fr => (x.type, x.channel, x.ext, x.values))
theorem kFr_heap : Kd.Heap kFr := Kd.heap_iso _ (Kd.heap_pair (Kd.heap_int .i64) (Kd.heap_pair (Kd.heap_int .i64) (Kd.heap_pair Kd.heap_string (Kd.heap_slice 25 kV_heap))))
theorem kFr_open {w : World} {x : Fr} {cs : List Value} (h : kFr.K w x cs) : ∃ A3 c3, cs = [.int .i64 x.type, .int .i64 x.channel, .string x.ext, .slice A3 x.values.length c3] ∧ x.values.length ≤ c3 ∧ kV.C w A3 x.values.length x.values := by
  obtain ⟨_, _, rfl, rfl, ⟨_, _, rfl, rfl, ⟨_, _, rfl, rfl, ⟨A3, c3, rfl, l3, g3⟩⟩⟩⟩ := h
  exact ⟨A3, c3, rfl, l3, g3⟩
theorem kFr_openM {w : World} {base : Nat} {ok : Nat → Prop} {x : Fr} {cs : List Value} (h : kFr.M w base ok x cs) : ∃ v3, cs = [.int .i64 x.type, .int .i64 x.channel, .string x.ext, v3] ∧ kV.R 25 w base ok v3 x.values := by
  obtain ⟨_, _, rfl, rfl, ⟨_, _, rfl, rfl, ⟨_, _, rfl, rfl, ⟨v3, rfl, g3⟩⟩⟩⟩ := h
  exact ⟨v3, rfl, g3⟩
theorem kFr_mk (w : World) (x : Fr) {A3 : Option Addr} {c3 : Nat} (l3 : x.values.length ≤ c3) (g3 : kV.C w A3 x.values.length x.values) : kFr.K w x [.int .i64 x.type, .int .i64 x.channel, .string x.ext, .slice A3 x.values.length c3] := ⟨[.int .i64 x.type], [.int .i64 x.channel, .string x.ext, .slice A3 x.values.length c3], rfl, rfl, ⟨[.int .i64 x.channel], [.string x.ext, .slice A3 x.values.length c3], rfl, rfl, ⟨[.string x.ext], [.slice A3 x.values.length c3], rfl, rfl, ⟨A3, c3, rfl, l3, g3⟩⟩⟩⟩
theorem kFr_mkM (w : World) (base : Nat) (ok : Nat → Prop) (x : Fr) {v3 : Value} (g3 : kV.R 25 w base ok v3 x.values) : kFr.M w base ok x [.int .i64 x.type, .int .i64 x.channel, .string x.ext, v3] := ⟨[.int .i64 x.type], [.int .i64 x.channel, .string x.ext, v3], rfl, rfl, ⟨[.int .i64 x.channel], [.string x.ext, v3], rfl, rfl, ⟨[.string x.ext], [v3], rfl, rfl, ⟨v3, rfl, g3⟩⟩⟩⟩
theorem kFr_openF {W : World} {ok : Nat → Prop} {x : Fr} {cs : List Value} (h : Kd.FK kFr W ok x cs) : ∃ A3 c3, cs = [.int .i64 x.type, .int .i64 x.channel, .string x.ext, .slice A3 x.values.length c3] ∧ x.values.length ≤ c3 ∧ Kd.F kV W ok A3 x.values.length x.values := by
  obtain ⟨A3, c3, rfl, l3, _⟩ := kFr_open (Kd.FK_now h)
  exact ⟨A3, c3, rfl, l3, (fun W' hW => by obtain ⟨A3_, c3_, he, l3_, g3_⟩ := kFr_open (h W' hW); injection (Option.some.inj (show some (Value.slice A3 x.values.length c3) = some (Value.slice A3_ x.values.length c3_) from congrArg (fun l => l[3]?) he)) with ha_ _ _; rw [ha_]; exact g3_)⟩
theorem kFr_mkF (W : World) (ok : Nat → Prop) (x : Fr) {A3 : Option Addr} {c3 : Nat} (l3 : x.values.length ≤ c3) (g3 : Kd.F kV W ok A3 x.values.length x.values) : Kd.FK kFr W ok x [.int .i64 x.type, .int .i64 x.channel, .string x.ext, .slice A3 x.values.length c3] := fun W2 hW => kFr_mk W2 x l3 (g3 W2 hW)
def rdFr (xs : List Fr) (i : Int) : Fr := xs.getD i.toNat zFr
theorem atFr {w : World} {A : Option Addr} {n : Nat} {xs : List Fr} (h : Kd.C kFr w A n xs) (i : Int) (h0 : 0 ≤ i) (h1 : i < n) : ∃ ad A3 c3, A = some ad ∧ w.cell? (ad.add (i.toNat * 4)) = some (.int .i64 (rdFr xs i).type) ∧ w.cell? ⟨(ad.add (i.toNat * 4)).block, (ad.add (i.toNat * 4)).off + 1, none⟩ = some (.int .i64 (rdFr xs i).channel) ∧ w.cell? ⟨(ad.add (i.toNat * 4)).block, (ad.add (i.toNat * 4)).off + 2, none⟩ = some (.string (rdFr xs i).ext) ∧ w.cell? ⟨(ad.add (i.toNat * 4)).block, (ad.add (i.toNat * 4)).off + 3, none⟩ = some (.slice A3 (rdFr xs i).values.length c3) ∧ (rdFr xs i).values.length ≤ c3 ∧ kV.C w A3 (rdFr xs i).values.length (rdFr xs i).values := by
  obtain ⟨ad, c, e, _, hK, hc0⟩ := Kd.C_get h zFr i h0 h1
  have hc : ∀ j u, c[j]? = some u → w.cell? (ad.add (i.toNat * 4 + j)) = some u := hc0
  obtain ⟨A3, c3, rfl, l3, g3⟩ := kFr_open hK
  exact ⟨ad, A3, c3, e, hc 0 _ rfl, by rw [← add_field _ _ 1 (by omega)]; exact hc 1 _ rfl, by rw [← add_field _ _ 2 (by omega)]; exact hc 2 _ rfl, by rw [← add_field _ _ 3 (by omega)]; exact hc 3 _ rfl, l3, g3⟩

/-! #### struct type 132, nested in itself -/
structure Fo where
  v : Vl
  kids : (List Fo)
  element : Int
  inner : Int
def zFo : Fo := ⟨zV, ([] : List Fo), (0 : Int), (0 : Int)⟩
def FFo (d : Kd Fo) : Kd Fo := Kd.iso (Kd.pair kV (Kd.pair (Kd.slice 132 d) (Kd.pair (Kd.int .i64) (Kd.int .i64)))) (fun x : Fo => (x.v, x.kids, x.element, x.inner))
theorem monoFo : Kd.Mono FFo := Kd.mono_iso _ (Kd.mono_pair (Kd.mono_const _) (Kd.mono_pair (Kd.mono_slice 132 Kd.mono_id) (Kd.mono_pair (Kd.mono_const _) (Kd.mono_const _))))
theorem subFo : Kd.Sub FFo [25, 132] := Kd.sub_iso _ (Kd.sub_pair (Kd.sub_const _ (by decide)) (Kd.sub_pair (Kd.sub_slice 132 (by decide) Kd.sub_id) (Kd.sub_pair (Kd.sub_const _ (by decide)) (Kd.sub_const _ (by decide)))))
theorem szFo : ∀ n, (Kd.upto FFo 7 [25, 132] n).sz = 7 := Kd.upto_sz (fun _ => rfl)
def kFo : Kd Fo := Kd.fix FFo 7 [25, 132] szFo (Kd.upto_E subFo)
theorem kFo_heap : Kd.Heap kFo := Kd.heap_fix (fun _ h_ => Kd.heap_iso _ (Kd.heap_pair kV_heap (Kd.heap_pair (Kd.heap_slice 132 h_) (Kd.heap_pair (Kd.heap_int .i64) (Kd.heap_int .i64)))))
theorem kFo_open {w : World} {x : Fo} {cs : List Value} (h : kFo.K w x cs) : ∃ A3 c3 A4 c4, cs = [.int .i64 x.v.kind, .int .u64 x.v.n, .string x.v.text, .slice A3 x.v.items.length c3, .slice A4 x.kids.length c4, .int .i64 x.element, .int .i64 x.inner] ∧ x.v.items.length ≤ c3 ∧ kV.C w A3 x.v.items.length x.v.items ∧ x.kids.length ≤ c4 ∧ kFo.C w A4 x.kids.length x.kids := by
  obtain ⟨n, h⟩ := h
  cases n with
  | zero => exact h.elim
  | succ n =>
    obtain ⟨_, _, rfl, s0, ⟨_, _, rfl, ⟨A4, c4, rfl, l4, g4⟩, ⟨_, _, rfl, rfl, rfl⟩⟩⟩ := h
    obtain ⟨A3, c3, rfl, l3, g3⟩ := kV_open s0
    exact ⟨A3, c3, A4, c4, rfl, l3, g3, l4, Kd.fix_C g4⟩
theorem kFo_openM {w : World} {base : Nat} {ok : Nat → Prop} {x : Fo} {cs : List Value} (h : kFo.M w base ok x cs) : ∃ v3 v4, cs = [.int .i64 x.v.kind, .int .u64 x.v.n, .string x.v.text, v3, v4, .int .i64 x.element, .int .i64 x.inner] ∧ kV.R 25 w base ok v3 x.v.items ∧ kFo.R 132 w base ok v4 x.kids := by
  obtain ⟨n, h⟩ := h
  cases n with
  | zero => exact h.elim
  | succ n =>
    obtain ⟨_, _, rfl, s0, ⟨_, _, rfl, ⟨v4, rfl, g4⟩, ⟨_, _, rfl, rfl, rfl⟩⟩⟩ := h
    obtain ⟨v3, rfl, g3⟩ := kV_openM s0
    exact ⟨v3, v4, rfl, g3, Kd.fix_R g4⟩
theorem kFo_mk (w : World) (x : Fo) {A3 : Option Addr} {c3 : Nat} (l3 : x.v.items.length ≤ c3) (g3 : kV.C w A3 x.v.items.length x.v.items) {A4 : Option Addr} {c4 : Nat} (l4 : x.kids.length ≤ c4) (g4 : kFo.C w A4 x.kids.length x.kids) : kFo.K w x [.int .i64 x.v.kind, .int .u64 x.v.n, .string x.v.text, .slice A3 x.v.items.length c3, .slice A4 x.kids.length c4, .int .i64 x.element, .int .i64 x.inner] := by
  obtain ⟨n4, q4⟩ := Kd.fix_C_back monoFo g4
  have r4 := Kd.upto_C_le monoFo szFo (show n4 ≤ n4 by omega) q4
  exact ⟨n4 + 1, ⟨[.int .i64 x.v.kind, .int .u64 x.v.n, .string x.v.text, .slice A3 x.v.items.length c3], [.slice A4 x.kids.length c4, .int .i64 x.element, .int .i64 x.inner], rfl, (kV_mk w x.v l3 g3), ⟨[.slice A4 x.kids.length c4], [.int .i64 x.element, .int .i64 x.inner], rfl, ⟨A4, c4, rfl, l4, r4⟩, ⟨[.int .i64 x.element], [.int .i64 x.inner], rfl, rfl, rfl⟩⟩⟩⟩
theorem kFo_mkM (w : World) (base : Nat) (ok : Nat → Prop) (x : Fo) {v3 : Value} (g3 : kV.R 25 w base ok v3 x.v.items) {v4 : Value} (g4 : kFo.R 132 w base ok v4 x.kids) : kFo.M w base ok x [.int .i64 x.v.kind, .int .u64 x.v.n, .string x.v.text, v3, v4, .int .i64 x.element, .int .i64 x.inner] := by
  obtain ⟨n4, q4⟩ := Kd.fix_R_back monoFo g4
  have r4 := Kd.upto_R_le monoFo szFo (show n4 ≤ n4 by omega) q4
  exact ⟨n4 + 1, ⟨[.int .i64 x.v.kind, .int .u64 x.v.n, .string x.v.text, v3], [v4, .int .i64 x.element, .int .i64 x.inner], rfl, (kV_mkM w base ok x.v g3), ⟨[v4], [.int .i64 x.element, .int .i64 x.inner], rfl, ⟨v4, rfl, r4⟩, ⟨[.int .i64 x.element], [.int .i64 x.inner], rfl, rfl, rfl⟩⟩⟩⟩
theorem kFo_openF {W : World} {ok : Nat → Prop} {x : Fo} {cs : List Value} (h : Kd.FK kFo W ok x cs) : ∃ A3 c3 A4 c4, cs = [.int .i64 x.v.kind, .int .u64 x.v.n, .string x.v.text, .slice A3 x.v.items.length c3, .slice A4 x.kids.length c4, .int .i64 x.element, .int .i64 x.inner] ∧ x.v.items.length ≤ c3 ∧ Kd.F kV W ok A3 x.v.items.length x.v.items ∧ x.kids.length ≤ c4 ∧ Kd.F kFo W ok A4 x.kids.length x.kids := by
  obtain ⟨A3, c3, A4, c4, rfl, l3, _, l4, _⟩ := kFo_open (Kd.FK_now h)
  exact ⟨A3, c3, A4, c4, rfl, l3, (fun W' hW => by obtain ⟨A3_, c3_, A4_, c4_, he, l3_, g3_, l4_, g4_⟩ := kFo_open (h W' hW); injection (Option.some.inj (show some (Value.slice A3 x.v.items.length c3) = some (Value.slice A3_ x.v.items.length c3_) from congrArg (fun l => l[3]?) he)) with ha_ _ _; rw [ha_]; exact g3_), l4, (fun W' hW => by obtain ⟨A3_, c3_, A4_, c4_, he, l3_, g3_, l4_, g4_⟩ := kFo_open (h W' hW); injection (Option.some.inj (show some (Value.slice A4 x.kids.length c4) = some (Value.slice A4_ x.kids.length c4_) from congrArg (fun l => l[4]?) he)) with ha_ _ _; rw [ha_]; exact g4_)⟩
theorem kFo_mkF (W : World) (ok : Nat → Prop) (x : Fo) {A3 : Option Addr} {c3 : Nat} (l3 : x.v.items.length ≤ c3) (g3 : Kd.F kV W ok A3 x.v.items.length x.v.items) {A4 : Option Addr} {c4 : Nat} (l4 : x.kids.length ≤ c4) (g4 : Kd.F kFo W ok A4 x.kids.length x.kids) : Kd.FK kFo W ok x [.int .i64 x.v.kind, .int .u64 x.v.n, .string x.v.text, .slice A3 x.v.items.length c3, .slice A4 x.kids.length c4, .int .i64 x.element, .int .i64 x.inner] := fun W2 hW => kFo_mk W2 x l3 (g3 W2 hW) l4 (g4 W2 hW)
def rdFo (xs : List Fo) (i : Int) : Fo := xs.getD i.toNat zFo
theorem atFo {w : World} {A : Option Addr} {n : Nat} {xs : List Fo} (h : Kd.C kFo w A n xs) (i : Int) (h0 : 0 ≤ i) (h1 : i < n) : ∃ ad A3 c3 A4 c4, A = some ad ∧ w.cell? (ad.add (i.toNat * 7)) = some (.int .i64 (rdFo xs i).v.kind) ∧ w.cell? ⟨(ad.add (i.toNat * 7)).block, (ad.add (i.toNat * 7)).off + 1, none⟩ = some (.int .u64 (rdFo xs i).v.n) ∧ w.cell? ⟨(ad.add (i.toNat * 7)).block, (ad.add (i.toNat * 7)).off + 2, none⟩ = some (.string (rdFo xs i).v.text) ∧ w.cell? ⟨(ad.add (i.toNat * 7)).block, (ad.add (i.toNat * 7)).off + 3, none⟩ = some (.slice A3 (rdFo xs i).v.items.length c3) ∧ w.cell? ⟨(ad.add (i.toNat * 7)).block, (ad.add (i.toNat * 7)).off + 4, none⟩ = some (.slice A4 (rdFo xs i).kids.length c4) ∧ w.cell? ⟨(ad.add (i.toNat * 7)).block, (ad.add (i.toNat * 7)).off + 5, none⟩ = some (.int .i64 (rdFo xs i).element) ∧ w.cell? ⟨(ad.add (i.toNat * 7)).block, (ad.add (i.toNat * 7)).off + 6, none⟩ = some (.int .i64 (rdFo xs i).inner) ∧ (rdFo xs i).v.items.length ≤ c3 ∧ kV.C w A3 (rdFo xs i).v.items.length (rdFo xs i).v.items ∧ (rdFo xs i).kids.length ≤ c4 ∧ kFo.C w A4 (rdFo xs i).kids.length (rdFo xs i).kids := by
  obtain ⟨ad, c, e, _, hK, hc0⟩ := Kd.C_get h zFo i h0 h1
  have hc : ∀ j u, c[j]? = some u → w.cell? (ad.add (i.toNat * 7 + j)) = some u := hc0
  obtain ⟨A3, c3, A4, c4, rfl, l3, g3, l4, g4⟩ := kFo_open hK
  exact ⟨ad, A3, c3, A4, c4, e, hc 0 _ rfl, by rw [← add_field _ _ 1 (by omega)]; exact hc 1 _ rfl, by rw [← add_field _ _ 2 (by omega)]; exact hc 2 _ rfl, by rw [← add_field _ _ 3 (by omega)]; exact hc 3 _ rfl, by rw [← add_field _ _ 4 (by omega)]; exact hc 4 _ rfl, by rw [← add_field _ _ 5 (by omega)]; exact hc 5 _ rfl, by rw [← add_field _ _ 6 (by omega)]; exact hc 6 _ rfl, l3, g3, l4, g4⟩

end Go.Proofs.YtekpofpgkokoiaaDoor.Q
