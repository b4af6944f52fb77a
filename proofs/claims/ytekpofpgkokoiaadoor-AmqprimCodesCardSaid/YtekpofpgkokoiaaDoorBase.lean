/- The base of this seat's walks: how the program's values (api.Value, api.Ctor) lie in memory, over the printed words. -/
import Derived.Test.YtekpofpgkokoiaaDoorProg
import Derived.Test.YtekpofpgkokoiaaDoorWWords
import Derived.Test.YtekpofpgkokoiaaDoorSpec
import Derived.WalkKit
import Derived.Outline
import Derived.Lib.Hide
import Derived.Shelf.Unicode.DecodeSlow
import Derived.IntWalk
import Derived.WalkLawsBesides
set_option linter.unusedVariables false
set_option linter.unusedSimpArgs false
namespace Go.Proofs.YtekpofpgkokoiaaDoor.M
open Go.RowKit Go.Proofs.YtekpofpgkokoiaaDoorW.PrintWords

def FV (d : Kd Vl) : Kd Vl := Kd.iso (Kd.pair (Kd.int .i64) (Kd.pair (Kd.int .u64) (Kd.pair Kd.string (Kd.slice 25 d)))) (fun x : Vl => (x.kind, x.n, x.text, x.items))
theorem monoV : Kd.Mono FV := Kd.mono_iso _ (Kd.mono_pair (Kd.mono_const _) (Kd.mono_pair (Kd.mono_const _) (Kd.mono_pair (Kd.mono_const _) (Kd.mono_slice 25 Kd.mono_id))))
theorem subV : Kd.Sub FV [25] := Kd.sub_iso _ (Kd.sub_pair (Kd.sub_const _ (by decide)) (Kd.sub_pair (Kd.sub_const _ (by decide)) (Kd.sub_pair (Kd.sub_const _ (by decide)) (Kd.sub_slice 25 (by decide) Kd.sub_id))))
theorem szV : ∀ n, (Kd.upto FV 4 [25] n).sz = 4 := Kd.upto_sz (fun _ => rfl)
def kV : Kd Vl := Kd.fix FV 4 [25] szV (Kd.upto_E subV)
theorem kV_open {w : World} {x : Vl} {cs : List Value} (h : kV.K w x cs) : ∃ A3 c3, cs = [.int .i64 x.kind, .int .u64 x.n, .string x.text, .slice A3 x.items.length c3] ∧ x.items.length ≤ c3 ∧ kV.C w A3 x.items.length x.items := by
  obtain ⟨n, h⟩ := h
  cases n with
  | zero => exact h.elim
  | succ n =>
    obtain ⟨_, _, rfl, rfl, ⟨_, _, rfl, rfl, ⟨_, _, rfl, rfl, ⟨A3, c3, rfl, l3, g3⟩⟩⟩⟩ := h
    exact ⟨A3, c3, rfl, l3, Kd.fix_C g3⟩
theorem kV_openM {w : World} {base : Nat} {ok : Nat → Prop} {x : Vl} {cs : List Value} (h : kV.M w base ok x cs) : ∃ v3, cs = [.int .i64 x.kind, .int .u64 x.n, .string x.text, v3] ∧ kV.R 25 w base ok v3 x.items := by
  obtain ⟨n, h⟩ := h
  cases n with
  | zero => exact h.elim
  | succ n =>
    obtain ⟨_, _, rfl, rfl, ⟨_, _, rfl, rfl, ⟨_, _, rfl, rfl, ⟨v3, rfl, g3⟩⟩⟩⟩ := h
    exact ⟨v3, rfl, Kd.fix_R g3⟩
theorem kV_mk (w : World) (x : Vl) {A3 : Option Addr} {c3 : Nat} (l3 : x.items.length ≤ c3) (g3 : kV.C w A3 x.items.length x.items) : kV.K w x [.int .i64 x.kind, .int .u64 x.n, .string x.text, .slice A3 x.items.length c3] := by
  obtain ⟨n3, q3⟩ := Kd.fix_C_back monoV g3
  have r3 := Kd.upto_C_le monoV szV (show n3 ≤ n3 by omega) q3
  exact ⟨n3 + 1, ⟨[.int .i64 x.kind], [.int .u64 x.n, .string x.text, .slice A3 x.items.length c3], rfl, rfl, ⟨[.int .u64 x.n], [.string x.text, .slice A3 x.items.length c3], rfl, rfl, ⟨[.string x.text], [.slice A3 x.items.length c3], rfl, rfl, ⟨A3, c3, rfl, l3, r3⟩⟩⟩⟩⟩
theorem kV_mkM (w : World) (base : Nat) (ok : Nat → Prop) (x : Vl) {v3 : Value} (g3 : kV.R 25 w base ok v3 x.items) : kV.M w base ok x [.int .i64 x.kind, .int .u64 x.n, .string x.text, v3] := by
  obtain ⟨n3, q3⟩ := Kd.fix_R_back monoV g3
  have r3 := Kd.upto_R_le monoV szV (show n3 ≤ n3 by omega) q3
  exact ⟨n3 + 1, ⟨[.int .i64 x.kind], [.int .u64 x.n, .string x.text, v3], rfl, rfl, ⟨[.int .u64 x.n], [.string x.text, v3], rfl, rfl, ⟨[.string x.text], [v3], rfl, rfl, ⟨v3, rfl, r3⟩⟩⟩⟩⟩
def rdV (xs : List Vl) (i : Int) : Vl := xs.getD i.toNat zV
theorem atV {w : World} {A : Option Addr} {n : Nat} {xs : List Vl} (h : Kd.C kV w A n xs) (i : Int) (h0 : 0 ≤ i) (h1 : i < n) : ∃ ad A3 c3, A = some ad ∧ w.cell? (ad.add (i.toNat * 4)) = some (.int .i64 (rdV xs i).kind) ∧ w.cell? ⟨(ad.add (i.toNat * 4)).block, (ad.add (i.toNat * 4)).off + 1, none⟩ = some (.int .u64 (rdV xs i).n) ∧ w.cell? ⟨(ad.add (i.toNat * 4)).block, (ad.add (i.toNat * 4)).off + 2, none⟩ = some (.string (rdV xs i).text) ∧ w.cell? ⟨(ad.add (i.toNat * 4)).block, (ad.add (i.toNat * 4)).off + 3, none⟩ = some (.slice A3 (rdV xs i).items.length c3) ∧ (rdV xs i).items.length ≤ c3 ∧ kV.C w A3 (rdV xs i).items.length (rdV xs i).items := by
  obtain ⟨ad, c, e, _, hK, hc0⟩ := Kd.C_get h zV i h0 h1
  have hc : ∀ j u, c[j]? = some u → w.cell? (ad.add (i.toNat * 4 + j)) = some u := hc0
  obtain ⟨A3, c3, rfl, l3, g3⟩ := kV_open hK
  exact ⟨ad, A3, c3, e, hc 0 _ rfl, by rw [← add_field _ _ 1 (by omega)]; exact hc 1 _ rfl, by rw [← add_field _ _ 2 (by omega)]; exact hc 2 _ rfl, by rw [← add_field _ _ 3 (by omega)]; exact hc 3 _ rfl, l3, g3⟩


def kC : Kd Ct := Kd.iso (Kd.pair (Kd.int .i64) (Kd.pair (Kd.int .i64) (Kd.pair (Kd.int .i64) (Kd.pair Kd.bool Kd.bool)))) (fun x : Ct => (x.code, x.kind, x.width, x.sized, x.items))
theorem kC_open {w : World} {x : Ct} {cs : List Value} (h : kC.K w x cs) : cs = [.int .i64 x.code, .int .i64 x.kind, .int .i64 x.width, .bool x.sized, .bool x.items] := by
  obtain ⟨_, _, rfl, rfl, ⟨_, _, rfl, rfl, ⟨_, _, rfl, rfl, ⟨_, _, rfl, rfl, rfl⟩⟩⟩⟩ := h
  exact rfl
theorem kC_openM {w : World} {base : Nat} {ok : Nat → Prop} {x : Ct} {cs : List Value} (h : kC.M w base ok x cs) : cs = [.int .i64 x.code, .int .i64 x.kind, .int .i64 x.width, .bool x.sized, .bool x.items] := by
  obtain ⟨_, _, rfl, rfl, ⟨_, _, rfl, rfl, ⟨_, _, rfl, rfl, ⟨_, _, rfl, rfl, rfl⟩⟩⟩⟩ := h
  exact rfl
theorem kC_mk (w : World) (x : Ct)  : kC.K w x [.int .i64 x.code, .int .i64 x.kind, .int .i64 x.width, .bool x.sized, .bool x.items] := ⟨[.int .i64 x.code], [.int .i64 x.kind, .int .i64 x.width, .bool x.sized, .bool x.items], rfl, rfl, ⟨[.int .i64 x.kind], [.int .i64 x.width, .bool x.sized, .bool x.items], rfl, rfl, ⟨[.int .i64 x.width], [.bool x.sized, .bool x.items], rfl, rfl, ⟨[.bool x.sized], [.bool x.items], rfl, rfl, rfl⟩⟩⟩⟩
theorem kC_mkM (w : World) (base : Nat) (ok : Nat → Prop) (x : Ct)  : kC.M w base ok x [.int .i64 x.code, .int .i64 x.kind, .int .i64 x.width, .bool x.sized, .bool x.items] := ⟨[.int .i64 x.code], [.int .i64 x.kind, .int .i64 x.width, .bool x.sized, .bool x.items], rfl, rfl, ⟨[.int .i64 x.kind], [.int .i64 x.width, .bool x.sized, .bool x.items], rfl, rfl, ⟨[.int .i64 x.width], [.bool x.sized, .bool x.items], rfl, rfl, ⟨[.bool x.sized], [.bool x.items], rfl, rfl, rfl⟩⟩⟩⟩
def rdC (xs : List Ct) (i : Int) : Ct := xs.getD i.toNat zC
theorem atC {w : World} {A : Option Addr} {n : Nat} {xs : List Ct} (h : Kd.C kC w A n xs) (i : Int) (h0 : 0 ≤ i) (h1 : i < n) : ∃ ad , A = some ad ∧ w.cell? (ad.add (i.toNat * 5)) = some (.int .i64 (rdC xs i).code) ∧ w.cell? ⟨(ad.add (i.toNat * 5)).block, (ad.add (i.toNat * 5)).off + 1, none⟩ = some (.int .i64 (rdC xs i).kind) ∧ w.cell? ⟨(ad.add (i.toNat * 5)).block, (ad.add (i.toNat * 5)).off + 2, none⟩ = some (.int .i64 (rdC xs i).width) ∧ w.cell? ⟨(ad.add (i.toNat * 5)).block, (ad.add (i.toNat * 5)).off + 3, none⟩ = some (.bool (rdC xs i).sized) ∧ w.cell? ⟨(ad.add (i.toNat * 5)).block, (ad.add (i.toNat * 5)).off + 4, none⟩ = some (.bool (rdC xs i).items) := by
  obtain ⟨ad, c, e, _, hK, hc0⟩ := Kd.C_get h zC i h0 h1
  have hc : ∀ j u, c[j]? = some u → w.cell? (ad.add (i.toNat * 5 + j)) = some u := hc0
  obtain rfl := kC_open hK
  exact ⟨ad, e, hc 0 _ rfl, by rw [← add_field _ _ 1 (by omega)]; exact hc 1 _ rfl, by rw [← add_field _ _ 2 (by omega)]; exact hc 2 _ rfl, by rw [← add_field _ _ 3 (by omega)]; exact hc 3 _ rfl, by rw [← add_field _ _ 4 (by omega)]; exact hc 4 _ rfl⟩


theorem infoV : (Tryd.prog.info? 25).map (fun i => (i.zero, i.size, i.bytes)) = some (some (.agg #[(.int .i64 0), (.int .u64 0), (.string ⟨#[]⟩), (.slice none 0 0)]), 4, 56) := by kernel_rfl
theorem infoC : (Tryd.prog.info? 34).map (fun i => (i.zero, i.size, i.bytes)) = some (some (.agg #[(.int .i64 0), (.int .i64 0), (.int .i64 0), (.bool false), (.bool false)]), 5, 32) := by kernel_rfl
theorem infoInt : (Tryd.prog.info? 3).map (fun i => (i.zero, i.size, i.bytes)) = some (some (.int .i64 0), 1, 8) := by kernel_rfl
theorem infoU8 : (Tryd.prog.info? 5).map (fun i => (i.zero, i.size, i.bytes)) = some (some (.int .u8 0), 1, 1) := by kernel_rfl

/-! the ends of walks -/
theorem ret_i {a b : Int} (h : a = b) : Ending.returned (.int .i64 a) = .returned (.int .i64 b) := by rw [h]
theorem ret_u {a b : Int} (h : a = b) : Ending.returned (.int .u64 a) = .returned (.int .u64 b) := by rw [h]
theorem ret_b {a b : Bool} (h : a = b) : Ending.returned (.bool a) = .returned (.bool b) := by rw [h]
theorem ret_s {a b : ByteArray} (h : a = b) : Ending.returned (.string a) = .returned (.string b) := by rw [h]
theorem ret_ib {a a' : Int} {b b' : Bool} (h : a = a') (h2 : b = b') : Ending.returned (.tuple #[.int .i64 a, .bool b]) = .returned (.tuple #[.int .i64 a', .bool b']) := by rw [h, h2]
theorem ret_ii {a a' b b' : Int} (h : a = a') (h2 : b = b') : Ending.returned (.tuple #[.int .i64 a, .int .i64 b]) = .returned (.tuple #[.int .i64 a', .int .i64 b']) := by rw [h, h2]
theorem ret_si {a a' : ByteArray} {b b' : Int} (h : a = a') (h2 : b = b') : Ending.returned (.tuple #[.string a, .int .i64 b]) = .returned (.tuple #[.string a', .int .i64 b']) := by rw [h, h2]
theorem empty_toList (s : ByteArray) : s.toList.isEmpty = decide (s.size = 0) := by
  rw [Lib.toList_data, show s.size = s.data.toList.length from rfl]
  generalize s.data.toList = l
  cases l <;> simp

theorem put5 {w : World} {g t : Nat} {a0 a1 a2 a3 a4 : Value} (h : w.heap[g]? = some (.cells #[a0, a1, a2, a3, a4] t (0, 0))) (v0 v1 v2 v3 v4 : Value) :
    (((((w.setCell ⟨g, 0, none⟩ v0).setCell ⟨g, 1, none⟩ v1).setCell ⟨g, 2, none⟩ v2).setCell ⟨g, 3, none⟩ v3).setCell ⟨g, 4, none⟩ v4).heap[g]? = some (.cells #[v0, v1, v2, v3, v4] t (0, 0)) := by
  refine blk_put (cs := #[v0, v1, v2, v3, a4]) ?_ 4 _ rfl
  refine blk_put (cs := #[v0, v1, v2, a3, a4]) ?_ 3 _ rfl
  refine blk_put (cs := #[v0, v1, a2, a3, a4]) ?_ 2 _ rfl
  refine blk_put (cs := #[v0, a1, a2, a3, a4]) ?_ 1 _ rfl
  exact blk_put h 0 _ rfl
theorem put4 {w : World} {g t : Nat} {a0 a1 a2 a3 : Value} (h : w.heap[g]? = some (.cells #[a0, a1, a2, a3] t (0, 0))) (v0 v1 v2 v3 : Value) :
    ((((w.setCell ⟨g, 0, none⟩ v0).setCell ⟨g, 1, none⟩ v1).setCell ⟨g, 2, none⟩ v2).setCell ⟨g, 3, none⟩ v3).heap[g]? = some (.cells #[v0, v1, v2, v3] t (0, 0)) := by
  refine blk_put (cs := #[v0, v1, v2, a3]) ?_ 3 _ rfl
  refine blk_put (cs := #[v0, v1, a2, a3]) ?_ 2 _ rfl
  refine blk_put (cs := #[v0, a1, a2, a3]) ?_ 1 _ rfl
  exact blk_put h 0 _ rfl
theorem below_put4 {w w1 : World} (h : Below w.heap.size w w1) {g : Nat} (hg : w.heap.size ≤ g) (v0 v1 v2 v3 : Value) : Below w.heap.size w ((((w1.setCell ⟨g, 0, none⟩ v0).setCell ⟨g, 1, none⟩ v1).setCell ⟨g, 2, none⟩ v2).setCell ⟨g, 3, none⟩ v3) :=
  (((h.setCell hg v0).setCell hg v1).setCell hg v2).setCell hg v3
theorem below_put5 {w w1 : World} (h : Below w.heap.size w w1) {g : Nat} (hg : w.heap.size ≤ g) (v0 v1 v2 v3 v4 : Value) : Below w.heap.size w (((((w1.setCell ⟨g, 0, none⟩ v0).setCell ⟨g, 1, none⟩ v1).setCell ⟨g, 2, none⟩ v2).setCell ⟨g, 3, none⟩ v3).setCell ⟨g, 4, none⟩ v4) :=
  (below_put4 h hg v0 v1 v2 v3).setCell hg v4
theorem slice_next (w : World) (o : Obj) : Value.slice (some ⟨w.heap.size + 1, 0, none⟩) 1 1 = .slice (some ⟨(w.alloc o).heap.size, 0, none⟩) 1 1 := by simp
/-- The two tables of unicode/utf8 lie as the program's text lays them. -/
def Tb (w : World) : Prop := Lib.Utf8Tabs 0 1 w
theorem Tb.below {w w' : World} (h : Tb w) (hb : Below w.heap.size w w') : Tb w' := Utf8Tabs_below h hb
theorem Tb.alloc {w : World} (h : Tb w) (o : Obj) : Tb (w.alloc o) := h.below (below_alloc (Below.refl _ _) o)
theorem below_new (w : World) (o : Obj) : Below w.heap.size w (w.alloc o) := below_alloc (Below.refl _ _) o
theorem new_lt {w w1 : World} {o : Obj} (hb : Below (w.alloc o).heap.size (w.alloc o) w1) : w.heap.size < w1.heap.size := by
  have h := hb.size
  have e : (w.alloc o).heap.size = w.heap.size + 1 := by simp
  omega
theorem new_ltN {w w1 : World} {o : Obj} {n : Nat} (hb : Below ((w.alloc o).drewN n).heap.size ((w.alloc o).drewN n) w1) : w.heap.size < w1.heap.size := new_lt (o := o) ⟨hb.os, hb.tape, hb.output, hb.size, hb.block⟩
theorem new_lt2 {w w1 : World} {o o' : Obj} (hb : Below ((w.alloc o).alloc o').heap.size ((w.alloc o).alloc o') w1) : w.heap.size < w1.heap.size ∧ w.heap.size + 1 < w1.heap.size := by
  have h := hb.size
  have e : ((w.alloc o).alloc o').heap.size = w.heap.size + 2 := by simp
  omega
/-- A block that lies in an elder world lies in a later one, cell by cell. -/
theorem kept_cells {w w1 : World} (hb : Below w.heap.size w w1) : (∀ b o, b < w.heap.size → w1.cell? ⟨b, o, none⟩ = w.cell? ⟨b, o, none⟩) ∧ (∀ b o, b < w.heap.size → w1.frozen? ⟨b, o, none⟩ = w.frozen? ⟨b, o, none⟩) :=
  ⟨fun b o h => hb.cell (p := ⟨b, o, none⟩) h, fun b o h => hb.frozen (p := ⟨b, o, none⟩) h⟩
end Go.Proofs.YtekpofpgkokoiaaDoor.M
