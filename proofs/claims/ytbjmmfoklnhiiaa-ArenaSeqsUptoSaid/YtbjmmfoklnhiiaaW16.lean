/- What the walk of the law's 'whole' needs: marks, and each call as a list has it. Conditions: none. -/
import Derived.Test.YtbjmmfoklnhiiaaW15
namespace Go.Proofs.Ytbjmmfoklnhiiaa
open Go.RowKit

/-- an array of ints by a function -/
def arr (mk : Nat → Int) (n : Nat) : Array Value := ((List.range n).map fun x => Value.int .i64 (mk x)).toArray
theorem arr_get (mk : Nat → Int) {n x : Nat} (h : x < n) : (arr mk n)[x]? = some (.int .i64 (mk x)) := by simp [arr, h]
theorem arr_set (mk : Nat → Int) (n x : Nat) (v : Int) : (arr mk n).setIfInBounds x (.int .i64 v) = arr (upd mk x v) n := by
  apply Array.ext_getElem?
  intro j
  rw [Array.getElem?_setIfInBounds]
  by_cases hj : j < n
  · rw [arr_get _ hj]
    by_cases e : x = j
    · subst e; rw [if_pos rfl]; simp [arr, hj, upd]
    · rw [if_neg e, arr_get _ hj]; simp [upd, show j ≠ x from fun e' => e e'.symm]
  · have h1 : (arr mk n)[j]? = none := by simp [arr]; omega
    have h2 : (arr (upd mk x v) n)[j]? = none := by simp [arr]; omega
    rw [h1, h2]
    split
    · rw [if_neg (by simp [arr]; omega)]
    · rfl
theorem arr_made (n : Nat) : madeCells #[.int .i64 0] (n * 1) = arr (fun _ => 0) n := by
  apply Array.ext_getElem?
  intro j
  by_cases hj : j < n
  · rw [arr_get _ hj]; simp [madeCells, hj, Nat.mod_one]
  · simp [madeCells, arr, hj]

/-- the marks when the lists before k, and the first kk cells of the list k, have been gone over -/
structure Marked {α : Type} (A : Ab α) (mk : Nat → Int) (k kk : Nat) : Prop where
  done : ∀ {i : Nat} {l : List (Nat × α)} {j : Nat} {y : Nat × α}, A.L[i]? = some l → l[j]? = some y → mk y.1 = if i < k ∨ (i = k ∧ j < kk) then (i : Int) + 1 else 0
  none : ∀ x, (∀ {i : Nat} {l : List (Nat × α)} {j : Nat} {y : Nat × α}, A.L[i]? = some l → l[j]? = some y → y.1 ≠ x) → mk x = 0

section
variable {s : ASt Int} {A : Ab Int} {mk : Nat → Int} {k kk : Nat}
theorem Marked.zero (A : Ab Int) : Marked A (fun _ => 0) 0 0 := ⟨fun _ _ => by simp, fun _ _ => rfl⟩
theorem Marked.step (hr : Rep s A) (h : Marked A mk k kk) {l : List (Nat × Int)} {x : Nat × Int} (hi : A.L[k]? = some l) (hk : l[kk]? = some x) : mk x.1 = 0 ∧ Marked A (upd mk x.1 ((k : Int) + 1)) k (kk + 1) := by
  refine ⟨by rw [h.done hi hk, if_neg (by omega)], ?_, ?_⟩
  · intro i l' j y h1 h2
    by_cases e : y.1 = x.1
    · obtain ⟨rfl, rfl⟩ := hr.ch.uniq2 h1 h2 hi hk e
      rw [e, upd_same, if_pos (.inr ⟨rfl, by omega⟩)]
    · rw [upd_other _ _ e, h.done h1 h2]
      have hne : ¬ (i = k ∧ j = kk) := by
        rintro ⟨rfl, rfl⟩
        rw [hi] at h1; injection h1 with h1; subst h1
        rw [hk] at h2; injection h2 with h2; subst h2
        exact e rfl
      by_cases hc : i < k ∨ (i = k ∧ j < kk)
      · rw [if_pos hc, if_pos (by omega)]
      · rw [if_neg hc, if_neg (by omega)]
  · intro y hy
    have hne : y ≠ x.1 := fun e => hy hi hk e.symm
    rw [upd_other _ _ hne]
    exact h.none y hy
theorem Marked.next (h : Marked A mk k kk) {l : List (Nat × Int)} (hi : A.L[k]? = some l) (hk : l.length ≤ kk) : Marked A mk (k + 1) 0 := by
  refine ⟨fun {i l' j y} h1 h2 => ?_, h.none⟩
  rw [h.done h1 h2]
  by_cases e : i = k
  · subst e
    rw [hi] at h1; injection h1 with h1; subst h1
    have := (List.getElem?_eq_some_iff.1 h2).1
    rw [if_pos (by omega), if_pos (by omega)]
  · by_cases hc : i < k
    · rw [if_pos (by omega), if_pos (by omega)]
    · rw [if_neg (by omega), if_neg (by omega)]
/-- at the end: a mark says whether a node is in a list -/
theorem Marked.end_ (hr : Rep s A) (h : Marked A mk A.L.length 0) (x : Nat) : (decide (0 < mk x) = s.listB x) ∧ (s.holds x = 0 ↔ s.listB x = true) := by
  refine ⟨?_, by simp [ASt.listB]⟩
  unfold ASt.listB
  by_cases hh : s.holds x = 0
  · obtain ⟨i, l, j, y, h1, h2, h3⟩ := hr.at_ hh
    have hxy : x = y.1 := by omega
    have hil := (List.getElem?_eq_some_iff.1 h1).1
    rw [hxy, h.done h1 h2, if_pos (.inl hil), decide_eq_true (by omega)]
    rw [← hxy, hh]; rfl
  · rw [decide_eq_false hh, h.none x ?_]; · rfl
    intro i l j y h1 h2 e
    apply hh
    rw [← e]
    exact hr.holds_ h1 h2
end

/-- the cells before the list k -/
def upto {α : Type} (L : List (List (Nat × α))) (k : Nat) : Nat := total (L.take k)
theorem upto_zero {α : Type} (L : List (List (Nat × α))) : upto L 0 = 0 := rfl
theorem upto_succ {α : Type} {L : List (List (Nat × α))} {k : Nat} {l : List (Nat × α)} (h : L[k]? = some l) : upto L (k + 1) = upto L k + l.length := by
  unfold upto total
  rw [List.take_add_one, h]
  simp
theorem upto_all {α : Type} (L : List (List (Nat × α))) : upto L L.length = total L := by unfold upto; rw [List.take_length]
theorem upto_le {α : Type} (L : List (List (Nat × α))) (k : Nat) : upto L k ≤ total L := by
  unfold upto total
  conv => rhs; rw [← List.take_append_drop k L]
  rw [List.map_append, List.sum_append]; omega
end Go.Proofs.Ytbjmmfoklnhiiaa
