/- A part of this claim: what its theorem leans on. -/
import Derived.Test.YtekpofpgkokoiaaDoorZWWords
import Derived.Test.YtekpofpgkokoiaaDoorZWLast
import Derived.Test.YtekpofpgkokoiaaDoorZWTab
import Derived.Test.YtekpofpgkokoiaaDoorZWMore
import Derived.Test.YtekpofpgkokoiaaDoorZH1
set_option linter.unusedVariables false
set_option autoImplicit false
namespace Go.Proofs.YtekpofpgkokoiaaDoor.M
open Go.RowKit Go.Proofs.YtekpofpgkokoiaaDoorW.PrintWords Go.Proofs.YtekpofpgkokoiaaDoorW.PrintLast Go.Proofs.YtekpofpgkokoiaaDoorW.PrintMore
theorem zbd {α β : Type} {o : Option α} {f : α → Option β} {x : β} (h : o.bind f = some x) : ∃ a, Aside0 (o = some a) ∧ f a = some x := by
  obtain ⟨a, h1, h2⟩ := Option.bind_eq_some_iff.mp h
  exact ⟨a, ⟨h1⟩, h2⟩
theorem zyes {α : Type} {inst : Decidable (true = true)} {x y : α} {r : α} (h : (@ite α (true = true) inst x y) = r) : x = r := by rwa [if_pos rfl] at h
theorem zno {α : Type} {inst : Decidable (false = true)} {x y : α} {r : α} (h : (@ite α (false = true) inst x y) = r) : y = r := by rwa [if_neg (by simp)] at h
theorem zb {P : Prop} (h : P := by repeat (first | (with_reducible first | exact HB.out | apply below_alloc | apply pw_below_drewN | apply below_drew1 | refine below_set ?_ (Aside0.out (by assumption))) | exact HB.out)) : P := h
theorem zk {P Q : Prop} (a : Q) (h : Q → P := by intro a_; repeat (first | (with_reducible first | exact a_ | refine blk_drewN ?_ _ | refine blk_drew ?_ | refine blk_alloc ?_ _ | refine blk_far ?_ (Aside0.out (by assumption)) _) | exact a_)) : P := h a
theorem zr {P Q : Prop} (a : Q) (h : Q → P := by intro a_; repeat (first | (with_reducible first | exact a_ | apply Kd.R_alloc | apply Kd.R_drewN | apply Kd.R_drew) | exact a_)) : P := h a
theorem zbb {W0 w w1 : World} {g : Nat} {o : Obj} (a : W0.heap[g]? = some o) (hb : Below w.heap.size w w1) (h : W0.heap[g]? = some o → w.heap[g]? = some o := by intro a_; repeat (first | (with_reducible first | exact a_ | refine blk_drewN ?_ _ | refine blk_drew ?_ | refine blk_alloc ?_ _ | refine blk_far ?_ (Aside0.out (by assumption)) _) | exact a_)) : w1.heap[g]? = some o := blk_below (h a) hb
theorem zkb {W0 w w1 : World} {g g' : Nat} {t : TypeId} {cs : Array Value} (a : W0.heap[g']? = some (.cells cs t (0, 0))) {row : Option Nat} (hk : KeepBut w w1 g row) (hne : g' ≠ g) (hr : some g' ≠ row := by simp) (h : W0.heap[g']? = some (.cells cs t (0, 0)) → w.heap[g']? = some (.cells cs t (0, 0)) := by intro a_; repeat (first | (with_reducible first | exact a_ | refine blk_drewN ?_ _ | refine blk_drew ?_ | refine blk_alloc ?_ _ | refine blk_far ?_ (Aside0.out (by assumption)) _) | exact a_)) : w1.heap[g']? = some (.cells cs t (0, 0)) := KeepBut.blk hk (h a) hne hr
theorem znl {W0 w : World} {g g' : Nat} {o : Obj} (a : W0.heap[g]? = some o) (hg : g' = w.heap.size) (h : W0.heap[g]? = some o → w.heap[g]? = some o := by intro a_; repeat (first | (with_reducible first | exact a_ | refine blk_drewN ?_ _ | refine blk_drew ?_ | refine blk_alloc ?_ _ | refine blk_far ?_ (Aside0.out (by assumption)) _) | exact a_)) : g ≠ g' := by rw [hg]; exact Nat.ne_of_lt (blk_lt (h a))
theorem zng {W0 w : World} {g g' : Nat} {o : Obj} (a : W0.heap[g]? = some o) (hg : g' = w.heap.size) (h : W0.heap[g]? = some o → w.heap[g]? = some o := by intro a_; repeat (first | (with_reducible first | exact a_ | refine blk_drewN ?_ _ | refine blk_drew ?_ | refine blk_alloc ?_ _ | refine blk_far ?_ (Aside0.out (by assumption)) _) | exact a_)) : g' ≠ g := (znl a hg h).symm
theorem zge {w W : World} {g : Nat} (hg : g = W.heap.size) (h : Below w.heap.size w W := by repeat (first | (with_reducible first | exact HB.out | apply below_alloc | apply pw_below_drewN | apply below_drew1 | refine below_set ?_ (Aside0.out (by assumption))) | exact HB.out)) : w.heap.size ≤ g := by rw [hg]; exact below_size h
theorem zp4 {W0 w : World} {g t : Nat} {a0 a1 a2 a3 : Value} (a : W0.heap[g]? = some (.cells #[a0, a1, a2, a3] t (0, 0))) (v0 v1 v2 v3 : Value) (h : W0.heap[g]? = some (.cells #[a0, a1, a2, a3] t (0, 0)) → w.heap[g]? = some (.cells #[a0, a1, a2, a3] t (0, 0)) := by intro a_; repeat (first | (with_reducible first | exact a_ | refine blk_drewN ?_ _ | refine blk_drew ?_ | refine blk_alloc ?_ _ | refine blk_far ?_ (Aside0.out (by assumption)) _) | exact a_)) :
    ((((w.setCell ⟨g, 0, none⟩ v0).setCell ⟨g, 1, none⟩ v1).setCell ⟨g, 2, none⟩ v2).setCell ⟨g, 3, none⟩ v3).heap[g]? = some (.cells #[v0, v1, v2, v3] t (0, 0)) := put4 (h a) v0 v1 v2 v3
theorem zp5 {W0 w : World} {g t : Nat} {a0 a1 a2 a3 a4 : Value} (a : W0.heap[g]? = some (.cells #[a0, a1, a2, a3, a4] t (0, 0))) (v0 v1 v2 v3 v4 : Value) (h : W0.heap[g]? = some (.cells #[a0, a1, a2, a3, a4] t (0, 0)) → w.heap[g]? = some (.cells #[a0, a1, a2, a3, a4] t (0, 0)) := by intro a_; repeat (first | (with_reducible first | exact a_ | refine blk_drewN ?_ _ | refine blk_drew ?_ | refine blk_alloc ?_ _ | refine blk_far ?_ (Aside0.out (by assumption)) _) | exact a_)) :
    (((((w.setCell ⟨g, 0, none⟩ v0).setCell ⟨g, 1, none⟩ v1).setCell ⟨g, 2, none⟩ v2).setCell ⟨g, 3, none⟩ v3).setCell ⟨g, 4, none⟩ v4).heap[g]? = some (.cells #[v0, v1, v2, v3, v4] t (0, 0)) := put5 (h a) v0 v1 v2 v3 v4
section
variable {W : World} {g t : Nat} {a b c d e f : Value}
theorem cz4 (h : W.heap[g]? = some (.cells #[a, b, c, d] t (0, 0))) : W.cell? ⟨g, 0, none⟩ = some a ∧ W.cell? ⟨g, 1, none⟩ = some b ∧ W.cell? ⟨g, 2, none⟩ = some c ∧ W.cell? ⟨g, 3, none⟩ = some d ∧ W.frozen? ⟨g, 0, none⟩ = false ∧ W.frozen? ⟨g, 1, none⟩ = false ∧ W.frozen? ⟨g, 2, none⟩ = false ∧ W.frozen? ⟨g, 3, none⟩ = false :=
  ⟨blk_cell h 0, blk_cell h 1, blk_cell h 2, blk_cell h 3, blk_frozen h 0, blk_frozen h 1, blk_frozen h 2, blk_frozen h 3⟩
theorem cz5 (h : W.heap[g]? = some (.cells #[a, b, c, d, e] t (0, 0))) : W.cell? ⟨g, 0, none⟩ = some a ∧ W.cell? ⟨g, 1, none⟩ = some b ∧ W.cell? ⟨g, 2, none⟩ = some c ∧ W.cell? ⟨g, 3, none⟩ = some d ∧ W.cell? ⟨g, 4, none⟩ = some e ∧ W.frozen? ⟨g, 0, none⟩ = false ∧ W.frozen? ⟨g, 1, none⟩ = false ∧ W.frozen? ⟨g, 2, none⟩ = false ∧ W.frozen? ⟨g, 3, none⟩ = false ∧ W.frozen? ⟨g, 4, none⟩ = false :=
  ⟨blk_cell h 0, blk_cell h 1, blk_cell h 2, blk_cell h 3, blk_cell h 4, blk_frozen h 0, blk_frozen h 1, blk_frozen h 2, blk_frozen h 3, blk_frozen h 4⟩
end
theorem zt {P : Prop} (h : P := by first | rfl | (simp; done) | (simp [*]; done)) : P := h
theorem zo {P : Prop} (h : P := by first | omega | exact Nat.le_refl _) : P := h
theorem zoj {P Q : Prop} (a : Q) (h : Q → P := by intro a_; first | omega | exact Nat.le_refl _) : P := h a
theorem ze {P : Prop} (h : P := by first | rfl | (simp [errW_none, errW_some] <;> rfl) | (simp [*, errW_none, errW_some] <;> rfl)) : P := h
theorem zd {P : Prop} (h : P := by repeat (first | exact Drawn0.refl _ | apply Drawn0.step)) : P := h
theorem zn {P : Prop} (h : P := by first | exact Kd.R_nil _ _ _ _ _ | exact Kd.N_nil _ _ _ _ _ | exact Kd.V_nil _ _ _ _ _ | exact Kd.Q_nil _ _ _ _ _ | exact Kd.S_nil _ _ _ _ _) : P := h
theorem za {P : Prop} (h : P := by (try simp only [List.map_toArray, List.map_cons, List.map_nil]); first | done | rfl | (simp only [List.length_drop, List.length_take]; rfl)) : P := h
theorem zh {P : Prop} (h : P := by first | (go_simp; done) | (go_simp; rfl)) : P := h
def bm (n m : Nat) : Array Bool := ((List.range n).map fun i => m.testBit i).toArray
section
variable {P : Program} {md : Region.Mode} {ops : Array Oper} {Q : Exit → Act → World → Prop} {S : World → Prop} {ds : List Nat}
theorem pu {oi : Oper} {fuel : Nat} {l : Array Bool} {a : Act} {w : World} (i : Nat) (N : Option Tmp) (l' : Array Bool) (h1 : ops[i]? = some oi := by rfl) (hN : oi.dst = N := by rfl) (hc : anyB md ops l l' i = true := by exact any_of HT_.out (by kernel_rfl))
    (hQ : ∀ c a w v, Q (.panic c) (a.put oi.dst v) w → Q (.panic c) a w := by exact fun _ _ _ _ h => h) {v : Value} (hy : Yields P ops oi v a := by (refine Or.inl ⟨by rfl, ?_⟩; intro w'; go_simp; with_reducible rfl)) {a' : Act} (ha : a.put N v = a' := by (simp only [Act.put, List.setIfInBounds_toArray, List.set_cons_zero, List.set_cons_succ, i64_w, i32_w]; rfl))
    (h : wpAnyLast P md ops Q S ds fuel l' a' w) : wpAnyLast P md ops Q S ds (fuel + 1) l a w := pure_ l' h1 hN hc (fun c a w => hQ c a w v) hy ha h
theorem tk {oi : Oper} {fuel : Nat} {l : Array Bool} {a : Act} {w : World} (i : Nat) (N : Option Tmp) (l' : Array Bool) (hS : S w) (h1 : ops[i]? = some oi := by rfl) (hN : oi.dst = N := by rfl) (hc : takeB md ops ds l l' i = true := by exact take_ofW HT_.out HW_.out (by kernel_rfl))
    (hQ : ∀ c a w v, Q (.panic c) (a.put oi.dst v) w → Q (.panic c) a w := by exact fun _ _ _ _ h => h) {v : Value} (hy : YieldsIf P ops S oi v a := by (refine Or.inl ⟨by rfl, ?_⟩; intro w' hs_; (repeat (obtain ⟨_, hs_⟩ := hs_)); go_simp; with_reducible rfl)) {a' : Act} (ha : a.put N v = a' := by (simp only [Act.put, List.setIfInBounds_toArray, List.set_cons_zero, List.set_cons_succ, i64_w, i32_w]; rfl))
    (h : wpAnyLast P md ops Q S ds fuel l' a' w) : wpAnyLast P md ops Q S ds (fuel + 1) l a w := take_ l' h1 hN hc (fun c a w => hQ c a w v) hy hS ha h
end
end Go.Proofs.YtekpofpgkokoiaaDoor.M
