/- The walks of shapes, hold. Conditions: none. -/
import Derived.Test.YtjflllfkgbhemaaV4
namespace Go.Proofs.Ytjflllfkgbhemaa
open Go.RowKit

def isN0 (op : Int) : Bool := op == 1 || op == 3 || op == 4 || op == 5 || op == 6 || op == 7 || op == 9 || op == 10
def isB0 (op : Int) : Bool := op == 2 || op == 8
def isNN (op : Int) : Bool := op == 11 || op == 12 || op == 15 || op == 16 || op == 17 || op == 18
def isLL (op : Int) : Bool := op == 20 || op == 21
def isBq (op : Int) : Bool := op == 23 || op == 26
def isSt (op : Int) : Bool := op == 28 || op == 29 || op == 30
def takesL (op : Int) : List Int :=
  if isN0 op then [] else if isB0 op then [] else if isNN op then [1, 1] else if op == 13 then [1] else if op == 14 then [2] else if op == 19 then [3, 3] else if isLL op then [1, 1] else if isBq op then [2] else if isSt op then [1] else []
def givesV (op : Int) : Int :=
  if isN0 op then 1 else if isB0 op then 2 else if isNN op then 1 else if op == 13 then 1 else if op == 14 then 2 else if op == 19 then 2 else if isLL op then 2 else 0
def Vw (w : World) (v : Value) (l : List Int) : Prop :=
  ∃ oa cap, v = .slice oa l.length cap ∧ ∀ i x, l[i]? = some x → At w oa i (.int .i64 x)
def ints (l : List Int) : List Value := l.map fun x => .int .i64 x
theorem shA (w : World) (op G : Int) (tmps : Array Value) (hp : tmps.getD 2 undef = .pointer (some ⟨w.heap.size, 0, none⟩)) (ht : takesL op = []) (hg : givesV op = G) :
    bodyPost Try.prog Try.f68 (fun en w' => ∃ v, en = .returned (.agg #[v, .int .i64 (givesV op)]) ∧ Vw w' v (takesL op) ∧ Below w.heap.size w w') .ret { tmps := tmps, defers := [] } (w.alloc (.cells #[.slice none 0 0, .int .i64 G] 137)) := by
  have hres : Try.f68.results = #[.cell 2 137] := by kernel_rfl
  have hb := Blk.new w 137 #[.slice none 0 0, .int .i64 G]
  have c0 : (w.alloc (.cells #[.slice none 0 0, .int .i64 G] 137)).cell? ⟨w.heap.size, 0, none⟩ = some (.slice none 0 0) := by rw [hb.cell]; rfl
  have c1 : (w.alloc (.cells #[.slice none 0 0, .int .i64 G] 137)).cell? ⟨w.heap.size, 1, none⟩ = some (.int .i64 G) := by rw [hb.cell]; rfl
  have hB : Below w.heap.size w (w.alloc (.cells #[.slice none 0 0, .int .i64 G] 137)) := (Below.refl _ w).alloc (Nat.le_refl _) _
  generalize w.alloc (.cells #[.slice none 0 0, .int .i64 G] 137) = W at *
  refine bodyPost_ret (v := .agg #[.slice none 0 0, .int .i64 G]) ?_ rfl ⟨.slice none 0 0, by rw [hg], ⟨none, 0, by rw [ht]; rfl, fun i x hx => by rw [ht] at hx; simp at hx⟩, hB⟩
  simp only [results, hres]
  have hp' : tmps[2]?.getD undef = .pointer (some ⟨w.heap.size, 0, none⟩) := by simpa using hp
  go_simp
theorem shB (w : World) (op G : Int) (ls : List Int) (tmps : Array Value) (hp : tmps.getD 2 undef = .pointer (some ⟨w.heap.size, 0, none⟩)) (ht : takesL op = ls) (hg : givesV op = G) :
    bodyPost Try.prog Try.f68 (fun en w' => ∃ v, en = .returned (.agg #[v, .int .i64 (givesV op)]) ∧ Vw w' v (takesL op) ∧ Below w.heap.size w w') .ret { tmps := tmps, defers := [] }
      ((w.alloc (.cells #[.slice (some ⟨w.heap.size + 1, 0, none⟩) ls.length ls.length, .int .i64 G] 137)).alloc (.cells (ints ls).toArray 3)) := by
  have hres : Try.f68.results = #[.cell 2 137] := by kernel_rfl
  have hb := (Blk.new w 137 #[.slice (some ⟨w.heap.size + 1, 0, none⟩) ls.length ls.length, .int .i64 G]).alloc (.cells (ints ls).toArray 3)
  have hi : Blk ((w.alloc (.cells #[.slice (some ⟨w.heap.size + 1, 0, none⟩) ls.length ls.length, .int .i64 G] 137)).alloc (.cells (ints ls).toArray 3)) (w.heap.size + 1) 3 (ints ls).toArray := by
    have := Blk.new (w.alloc (.cells #[.slice (some ⟨w.heap.size + 1, 0, none⟩) ls.length ls.length, .int .i64 G] 137)) 3 (ints ls).toArray
    simpa using this
  have hB : Below w.heap.size w ((w.alloc (.cells #[.slice (some ⟨w.heap.size + 1, 0, none⟩) ls.length ls.length, .int .i64 G] 137)).alloc (.cells (ints ls).toArray 3)) := ((Below.refl _ w).alloc (Nat.le_refl _) _).alloc (by simp) _
  generalize (w.alloc (.cells #[.slice (some ⟨w.heap.size + 1, 0, none⟩) ls.length ls.length, .int .i64 G] 137)).alloc (.cells (ints ls).toArray 3) = W at *
  have c0 : W.cell? ⟨w.heap.size, 0, none⟩ = some (.slice (some ⟨w.heap.size + 1, 0, none⟩) ls.length ls.length) := by rw [hb.cell]; rfl
  have c1 : W.cell? ⟨w.heap.size, 1, none⟩ = some (.int .i64 G) := by rw [hb.cell]; rfl
  refine bodyPost_ret (v := .agg #[.slice (some ⟨w.heap.size + 1, 0, none⟩) ls.length ls.length, .int .i64 G]) ?_ rfl ⟨.slice (some ⟨w.heap.size + 1, 0, none⟩) ls.length ls.length, by rw [hg], ⟨some ⟨w.heap.size + 1, 0, none⟩, ls.length, by rw [ht], fun i x hx => ⟨_, rfl, hi.lt, ?_⟩⟩, hB⟩
  · simp only [results, hres]
    have hp' : tmps[2]?.getD undef = .pointer (some ⟨w.heap.size, 0, none⟩) := by simpa using hp
    go_simp
  · rw [ht] at hx
    rw [hi.cell]
    simp [ints, hx]
set_option linter.unusedSimpArgs false in
set_option maxRecDepth 100000 in
set_option maxHeartbeats 4000000 in
theorem shapes_i (w : World) (op : Int) : Calls Try.prog 68 #[.int .i64 op] w fun en w' => ∃ v, en = .returned (.agg #[v, .int .i64 (givesV op)]) ∧ Vw w' v (takesL op) ∧ Below w.heap.size w w' := by
  go_enter Try.func68, Try.ntmps68
  go_wp2
  all_goals
    first
    | exact shA w op _ _ rfl (by simp [takesL, isN0, isB0, isNN, isLL, isBq, isSt, *]) (by simp [givesV, isN0, isB0, isNN, isLL, *])
    | exact shB w op _ [1, 1] _ rfl (by simp [takesL, isN0, isB0, isNN, isLL, isBq, isSt, *]) (by simp [givesV, isN0, isB0, isNN, isLL, *])
    | exact shB w op _ [1] _ rfl (by simp [takesL, isN0, isB0, isNN, isLL, isBq, isSt, *]) (by simp [givesV, isN0, isB0, isNN, isLL, *])
    | exact shB w op _ [2] _ rfl (by simp [takesL, isN0, isB0, isNN, isLL, isBq, isSt, *]) (by simp [givesV, isN0, isB0, isNN, isLL, *])
    | exact shB w op _ [3, 3] _ rfl (by simp [takesL, isN0, isB0, isNN, isLL, isBq, isSt, *]) (by simp [givesV, isN0, isB0, isNN, isLL, *])
end Go.Proofs.Ytjflllfkgbhemaa
