/- All's closure, as an iterator: its contract, for every loop body that keeps what lay before. Conditions: the bounds that are named. -/
import Derived.Test.YtbjmmfoklnhiiaaW11
import Derived.RangeFuncNested
import Derived.RangeFuncBox
import Derived.RangeFuncLeaves
import Derived.RangeFuncCalls
import Derived.Shelf.Abstract
import Derived.OwnWalkIn
import Derived.TacticsInMore
import Derived.LoopNIn
import Derived.LoopIn
namespace Go.Proofs.Ytbjmmfoklnhiiaa
open Go.RowKit Go.Shelf
attribute [local go_sem] Oper.semAt_some

theorem rowCells_length (xs : List (Nat × Int)) : (rowCells xs).length = xs.length * 2 := by
  induction xs with
  | nil => rfl
  | cons x xs ih => simp [rowCells] at ih ⊢; omega
theorem rowCells_get {xs : List (Nat × Int)} {k : Nat} {x : Nat × Int} (h : xs[k]? = some x) : (rowCells xs)[k * 2]? = some (.int .i64 x.1) ∧ (rowCells xs)[k * 2 + 1]? = some (.int .i64 x.2) := by
  induction xs generalizing k with
  | nil => simp at h
  | cons y ys ih =>
    cases k with
    | zero => simp at h; subst h; simp [rowCells]
    | succ k =>
      simp at h
      have := ih h
      have e : rowCells (y :: ys) = .int .i64 y.1 :: .int .i64 y.2 :: rowCells ys := by simp [rowCells]
      rw [e, show (k + 1) * 2 = k * 2 + 1 + 1 from by omega, show k * 2 + 1 + 1 + 1 = (k * 2 + 1) + 1 + 1 from rfl]
      simpa using this

/-- what a loop body must keep: the block of the slice that is gone over -/
def Kpt (v : Value) (A B : World) : Prop := A.heap.size ≤ B.heap.size ∧ ∀ g, v.ownBlock = some g → B.heap[g]? = A.heap[g]?
theorem Kpt.refl (v : Value) (A : World) : Kpt v A A := ⟨Nat.le_refl _, fun _ _ => rfl⟩
theorem Kpt.trans {v : Value} {A B C : World} (h : Kpt v A B) (k : Kpt v B C) : Kpt v A C := ⟨Nat.le_trans h.1 k.1, fun g hg => (k.2 g hg).trans (h.2 g hg)⟩
theorem Kpt.alloc {v : Value} {A B : World} (h : Kpt v A B) (hv : ∀ g, v.ownBlock = some g → g < A.heap.size) (o : Obj) : Kpt v A (B.alloc o) :=
  ⟨Nat.le_trans h.1 (by simp), fun g hg => (Below.heap_alloc B o g (Nat.lt_of_lt_of_le (hv g hg) h.1)).trans (h.2 g hg)⟩
theorem Kpt.only {v : Value} {S : Nat → Prop} {A B : World} (h : Only S A B) (hv : ∀ g, v.ownBlock = some g → g < A.heap.size ∧ ¬ S g) : Kpt v A B :=
  ⟨h.size, fun g hg => h.block g (hv g hg).1 (hv g hg).2⟩
theorem Kpt.b {v : Value} {w : World} (hv : ∀ g, v.ownBlock = some g → g < w.heap.size) (W : World) (l : Nat) (o o' : Obj) (hl : w.heap.size ≤ l) (_ : W.heap[l]? = some o) (_ : o.isCells = false) (_ : o.isWalk = false) : Kpt v W (W.putObj l o') :=
  ⟨by simp, fun g hg => World.putObj_heap_other (by have := hv g hg; omega)⟩

set_option maxRecDepth 100000 in
set_option maxHeartbeats 2000000 in
theorem all1_in (F : Fence) (n : Nat) (h38 : F.fn 38) (hro : F.round = none) (hn : 1 ≤ n) (l bx : Nat) (xs : List (Nat × Int)) (a : Option Addr) (c : Nat)
    (hlen : xs.length ≤ 4194304) (J Jx : List (Nat × Int) → World → Prop) (W : World) (hJ : AbidesFrom W.heap.size J)
    (hY : ∀ pre x W, J pre W → pre.length < xs.length → YieldAt F (n - 1) Try.prog l #[.int .i64 (x.1 : Int), .int .i64 x.2] W fun e W' =>
      (e = .returned (.bool true) ∧ J (pre ++ [x]) W' ∧ Kpt (.slice a xs.length c) W W') ∨ (e = .returned (.bool false) ∧ Jx (pre ++ [x]) W'))
    (hc : W.cell? ⟨bx, 0, none⟩ = some (.slice a xs.length c)) (hown : W.ownsRow 0 79 2 (.slice a xs.length c) xs.length (rowCells xs)) (h0 : J [] W) :
    CallsIn F n Try.prog 38 #[.func (.yield l) #[] #[], .pointer (some ⟨bx, 0, none⟩)] W fun e W' => (∃ v, e = .returned v) ∧
      ((∃ ys, ys = xs ∧ J ys W') ∨ (∃ pre, pre <+: xs ∧ Jx pre W')) := by
  have hvl : ∀ g, (Value.slice a xs.length c).ownBlock = some g → g < W.heap.size := fun g hg => (hown.lt g hg).2
  refine callsIn_of_wp Try.func38 rfl h38 ?_ hro
  simp only [Try.ntmps38, List.size_toArray, List.length_cons, List.length_nil, Nat.reduceAdd, Nat.reduceSub, Array.replicate_succ, Array.replicate_zero, List.push_toArray, List.append_toArray, List.nil_append, List.cons_append]
  gi_wp2
  gi_loopw [7] (fun i wr => ∃ k : Nat, k ≤ xs.length ∧ i = .int .i64 k ∧ J (xs.take k) wr ∧ W.heap.size ≤ wr.heap.size ∧ Kpt (.slice a xs.length c) W wr) (fun i _ => xs.length - (intOf i).toNat)
  case atStart => exact ⟨0, Nat.zero_le _, rfl, by simpa using h0, Nat.le_refl _, Kpt.refl _ _⟩
  case round =>
    obtain ⟨k, hk, rfl, hJs, hsz, hnx⟩ := hrel
    by_cases hlt : k < xs.length
    · have hxk : xs[k]? = some xs[k] := List.getElem?_eq_getElem hlt
      obtain ⟨g, cap, hsl, _, _⟩ := own_form hown (by omega)
      obtain ⟨r1, r2⟩ := rowCells_get hxk
      rw [hsl] at hown hc hnx hY hvl ⊢
      have hgb := hnx.2 g rfl
      have q1 : wr.cell? ⟨g, k * 2, none⟩ = some (.int .i64 (xs[k].1 : Int)) := (World.cell?_of_block (a := ⟨g, k * 2, none⟩) hgb).trans ((hown.cellAt _ (by omega)).trans r1)
      have q2 : wr.cell? ⟨g, k * 2 + 1, none⟩ = some (.int .i64 xs[k].2) := (World.cell?_of_block (a := ⟨g, k * 2 + 1, none⟩) hgb).trans ((hown.cellAt _ (by omega)).trans r2)
      have hJ2 : J (xs.take k) (wr.alloc (.cells #[.int .i64 (xs[k].1 : Int), .int .i64 xs[k].2] 79)) := hJ _ _ _ none hJs (World.grownBy_alloc wr _ none) (by simp)
      obtain ⟨fn, tmps, assign, body, hy, hR⟩ := hY _ xs[k] _ hJ2 (by rw [List.length_take]; omega)
      have htk : xs.take (k + 1) = xs.take k ++ [xs[k]] := by rw [List.take_add_one, hxk]; rfl
      have hal := hnx.alloc hvl (.cells #[.int .i64 (xs[k].1 : Int), .int .i64 xs[k].2] 79)
      generalize xs[k] = x at *
      obtain ⟨nn, y⟩ := x
      simp only at q1 q2 hy hR hal
      have HTK := hide htk
      have HAL := hide hal
      clear htk hxk r1 r2 hJ2 hJ hown hsl hgb hnx hal hvl hY
      gi_wp2
      refine hR.mono ?_
      rintro e W3 (⟨rfl, hJ3, hk3⟩ | ⟨rfl, hJx3⟩)
      · have hk4 := HAL.out.trans hk3
        have HK4 := hide hk4
        clear hk3 hk4
        gi_wp2
        go_roundw
        case rel => exact ⟨k + 1, by omega, by simp, by rw [HTK.out]; exact hJ3, HK4.out.1, HK4.out⟩
        case measure => simp [intOf]; omega
      · gi_wp2
        refine bodyPost_ret (results_none rfl _ _ _) rfl ?_
        exact ⟨⟨_, rfl⟩, .inr ⟨_, by rw [← HTK.out]; exact List.take_prefix _ _, hJx3⟩⟩
    · have hkl : k = xs.length := by omega
      have HK := hide hkl
      clear hkl
      gi_wp2
      go_end0
      refine ⟨⟨_, rfl⟩, .inl ⟨_, rfl, ?_⟩⟩
      rw [HK.out, List.take_of_length_le (Nat.le_refl _)] at hJs
      exact hJs

/-- the value that All hands back -/
theorem all_stops (F : Fence) (n : Nat) (h38 : F.fn 38) (hro : F.round = none) (hn : 1 ≤ n) (bx : Nat) (xs : List (Nat × Int)) (v : Value) (w : World)
    (hlen : xs.length ≤ 4194304) (hc : Blk w bx 70 #[v]) (hown : w.ownsRow 0 79 2 v xs.length (rowCells xs)) :
    SeqStopsK F n Try.prog 38 #[.pointer (some ⟨bx, 0, none⟩)] (fun x : Nat × Int => #[Value.int .i64 (x.1 : Int), Value.int .i64 x.2]) (Kpt v) (fun ys => ys = xs) (fun pre => pre <+: xs) xs.length w := by
  intro l J Jx W hW hJ hJx hY h0
  obtain ⟨a, c, rfl⟩ := own_len hown
  have hown' : W.ownsRow 0 79 2 (.slice a xs.length c) xs.length (rowCells xs) := own_only hown (Only.of_below hW) (fun k hk => by have := (hown.lt k hk).2; simp; omega)
  exact all1_in F n h38 hro hn l bx xs a c hlen J Jx W hJ hY ((hW.cell (p := ⟨bx, 0, none⟩) hc.lt).trans (hc.cell 0)) hown' h0
end Go.Proofs.Ytbjmmfoklnhiiaa
