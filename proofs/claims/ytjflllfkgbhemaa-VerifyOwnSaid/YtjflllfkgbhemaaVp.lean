/- A standing that is written whole. Conditions: none. -/
import Derived.Test.YtjflllfkgbhemaaV8
namespace Go.Proofs.Ytjflllfkgbhemaa
open Go.RowKit
def put13 (w : World) (g : Nat) (v0 v1 v2 v3 v4 v5 v6 v7 v8 v9 v10 v11 v12 : Value) : World := ((((((((((((w.setCell ⟨g, 0, none⟩ v0).setCell ⟨g, 1, none⟩ v1).setCell ⟨g, 2, none⟩ v2).setCell ⟨g, 3, none⟩ v3).setCell ⟨g, 4, none⟩ v4).setCell ⟨g, 5, none⟩ v5).setCell ⟨g, 6, none⟩ v6).setCell ⟨g, 7, none⟩ v7).setCell ⟨g, 8, none⟩ v8).setCell ⟨g, 9, none⟩ v9).setCell ⟨g, 10, none⟩ v10).setCell ⟨g, 11, none⟩ v11).setCell ⟨g, 12, none⟩ v12
theorem len_succ {α : Type} {n : Nat} {l : List α} (h : l.length = n + 1) : ∃ x l', l = x :: l' ∧ l'.length = n := by
  cases l with
  | nil => simp at h
  | cons x l' => exact ⟨x, l', rfl, by simpa using h⟩
section
variable {w w' a : World} {g g' : Nat} {t t' : TypeId} {cs cs' : Array Value} {B : Nat} (v0 v1 v2 v3 v4 v5 v6 v7 v8 v9 v10 v11 v12 : Value)
theorem blk13 (h : Blk w g t cs) (hs : cs.size = 13) : Blk (put13 w g v0 v1 v2 v3 v4 v5 v6 v7 v8 v9 v10 v11 v12) g t #[v0, v1, v2, v3, v4, v5, v6, v7, v8, v9, v10, v11, v12] := by
  have k := ((((((((((((h.set_ 0 v0).set_ 1 v1).set_ 2 v2).set_ 3 v3).set_ 4 v4).set_ 5 v5).set_ 6 v6).set_ 7 v7).set_ 8 v8).set_ 9 v9).set_ 10 v10).set_ 11 v11).set_ 12 v12
  have e : ((((((((((((cs.setIfInBounds 0 v0).setIfInBounds 1 v1).setIfInBounds 2 v2).setIfInBounds 3 v3).setIfInBounds 4 v4).setIfInBounds 5 v5).setIfInBounds 6 v6).setIfInBounds 7 v7).setIfInBounds 8 v8).setIfInBounds 9 v9).setIfInBounds 10 v10).setIfInBounds 11 v11).setIfInBounds 12 v12 = #[v0, v1, v2, v3, v4, v5, v6, v7, v8, v9, v10, v11, v12] := by
    rcases cs with ⟨l⟩
    simp only [List.size_toArray] at hs
    obtain ⟨x0, l1, rfl, hs0⟩ := len_succ hs
    obtain ⟨x1, l2, rfl, hs1⟩ := len_succ hs0
    obtain ⟨x2, l3, rfl, hs2⟩ := len_succ hs1
    obtain ⟨x3, l4, rfl, hs3⟩ := len_succ hs2
    obtain ⟨x4, l5, rfl, hs4⟩ := len_succ hs3
    obtain ⟨x5, l6, rfl, hs5⟩ := len_succ hs4
    obtain ⟨x6, l7, rfl, hs6⟩ := len_succ hs5
    obtain ⟨x7, l8, rfl, hs7⟩ := len_succ hs6
    obtain ⟨x8, l9, rfl, hs8⟩ := len_succ hs7
    obtain ⟨x9, l10, rfl, hs9⟩ := len_succ hs8
    obtain ⟨x10, l11, rfl, hs10⟩ := len_succ hs9
    obtain ⟨x11, l12, rfl, hs11⟩ := len_succ hs10
    obtain ⟨x12, l13, rfl, hs12⟩ := len_succ hs11
    obtain rfl := List.eq_nil_of_length_eq_zero hs12
    simp
  rw [e] at k
  exact k
theorem below13 (h : Below B a w) (hg : B ≤ g) : Below B a (put13 w g v0 v1 v2 v3 v4 v5 v6 v7 v8 v9 v10 v11 v12) := by
  unfold put13
  repeat' (refine Below.setCell ?_ (by exact hg) _)
  exact h
theorem far13 (h : Blk w g' t' cs') (hn : g' ≠ g) : Blk (put13 w g v0 v1 v2 v3 v4 v5 v6 v7 v8 v9 v10 v11 v12) g' t' cs' := by
  unfold put13
  repeat' (refine Blk.far ?_ (by exact hn) _)
  exact h
theorem heap13 {k : Nat} (hn : k ≠ g) : (put13 w g v0 v1 v2 v3 v4 v5 v6 v7 v8 v9 v10 v11 v12).heap[k]? = w.heap[k]? := by
  unfold put13
  repeat' (rw [Below.heap_setCell _ _ _ k (by exact hn)])
theorem size13 : (put13 w g v0 v1 v2 v3 v4 v5 v6 v7 v8 v9 v10 v11 v12).heap.size = w.heap.size := by
  simp [put13, World.setCell]
end
theorem put13_eq (w : World) (g : Nat) (v0 v1 v2 v3 v4 v5 v6 v7 v8 v9 v10 v11 v12 : Value) : ((((((((((((w.setCell ⟨g, 0, none⟩ v0).setCell ⟨g, 1, none⟩ v1).setCell ⟨g, 2, none⟩ v2).setCell ⟨g, 3, none⟩ v3).setCell ⟨g, 4, none⟩ v4).setCell ⟨g, 5, none⟩ v5).setCell ⟨g, 6, none⟩ v6).setCell ⟨g, 7, none⟩ v7).setCell ⟨g, 8, none⟩ v8).setCell ⟨g, 9, none⟩ v9).setCell ⟨g, 10, none⟩ v10).setCell ⟨g, 11, none⟩ v11).setCell ⟨g, 12, none⟩ v12 = put13 w g v0 v1 v2 v3 v4 v5 v6 v7 v8 v9 v10 v11 v12 := rfl
end Go.Proofs.Ytjflllfkgbhemaa
