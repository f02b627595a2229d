/- When two arrays of eight numbers are the same. Conditions: none. -/
import Derived.Test.YtjflllfkgbhemaaV12
import Derived.ChangeKeysEq
namespace Go.Proofs.Ytjflllfkgbhemaa
open Go.RowKit

theorem part_i (W : World) (xs : Array Value) (i : Nat) (x : Int) (h : xs[i]? = some (.int .i64 x)) : (part 3 xs i).run Try.prog W = .ok (.int .i64 x) W := by
  unfold part
  go_simp
theorem eqItems_i (W : World) (xs ys : Array Value) (f g : Nat → Int) (d : Nat) : ∀ (is : List Nat) (_hx : ∀ i ∈ is, xs[i]? = some (.int .i64 (f i))) (_hy : ∀ i ∈ is, ys[i]? = some (.int .i64 (g i))),
    (Op.eqItems (d + 1) 3 1 xs ys is).run Try.prog W = .ok (is.all fun i => f i == g i) W
  | [], _, _ => by simp [Op.eqItems]
  | i :: is, hx, hy => by
    have ih := eqItems_i W xs ys f g d is (fun j hj => hx j (by simp [hj])) (fun j hj => hy j (by simp [hj]))
    simp only [Op.eqItems, Sem.run_bind, Nat.mul_one, part_i W xs i _ (hx i (by simp)), part_i W ys i _ (hy i (by simp)), Result.andThen_ok, run_equalIn_int W d 3 .i64 .i64 _ _ Try.underlying3, List.all_cons]
    cases h : f i == g i
    · simp
    · simpa using ih
def eq8 (ls ls' : List Int) : Bool := (List.range 8).all fun i => lv ls i == lv ls' i
theorem arr_i (W : World) (ls ls' : List Int) :
    (Op.equalIn 10000 72 (.agg #[.int .i64 (lv ls 0), .int .i64 (lv ls 1), .int .i64 (lv ls 2), .int .i64 (lv ls 3), .int .i64 (lv ls 4), .int .i64 (lv ls 5), .int .i64 (lv ls 6), .int .i64 (lv ls 7)])
      (.agg #[.int .i64 (lv ls' 0), .int .i64 (lv ls' 1), .int .i64 (lv ls' 2), .int .i64 (lv ls' 3), .int .i64 (lv ls' 4), .int .i64 (lv ls' 5), .int .i64 (lv ls' 6), .int .i64 (lv ls' 7)])).run Try.prog W = .ok (eq8 ls ls') W := by
  obtain ⟨i0, hi, _⟩ := info_parts info3
  rw [run_equalIn_array W 9999 _ _ Try.underlying72 hi, show Try.prog.cellsOf 3 = 1 from by kernel_rfl]
  refine eqItems_i W _ _ (lv ls) (lv ls') 9998 (List.range 8) ?_ ?_
  all_goals
    intro i hi'
    have h8 : i < 8 := List.mem_range.1 hi'
    obtain rfl | rfl | rfl | rfl | rfl | rfl | rfl | rfl : i = 0 ∨ i = 1 ∨ i = 2 ∨ i = 3 ∨ i = 4 ∨ i = 5 ∨ i = 6 ∨ i = 7 := by omega
    all_goals rfl
theorem eq8_iff {ls ls' : List Int} (hl : ls.length = ls'.length) : ls = ls' ↔ (eq8 ls ls' = true ∧ ls.drop 8 = ls'.drop 8) := by
  constructor
  · rintro rfl
    simp [eq8]
  · rintro ⟨h1, h2⟩
    apply List.ext_getElem? 
    intro i
    by_cases h8 : i < 8
    · have h3 : lv ls i = lv ls' i := by
        unfold eq8 at h1
        rw [List.all_eq_true] at h1
        simpa using h1 i (List.mem_range.2 h8)
      unfold lv at h3
      by_cases hi : i < ls.length
      · rw [List.getElem?_eq_getElem hi, List.getElem?_eq_getElem (by omega : i < ls'.length)] at h3 ⊢
        simpa using h3
      · rw [List.getElem?_eq_none (by omega), List.getElem?_eq_none (by omega)]
    · have := congrArg (fun l => l[i - 8]?) h2
      simp only [List.getElem?_drop] at this
      rw [show 8 + (i - 8) = i from by omega] at this
      exact this
def sameV (a b : St) : Bool := decide (a.ty = b.ty) && decide (a.ls = b.ls) && decide (a.hand = b.hand)
end Go.Proofs.Ytjflllfkgbhemaa
