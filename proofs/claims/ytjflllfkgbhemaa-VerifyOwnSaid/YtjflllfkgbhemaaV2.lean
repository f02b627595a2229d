/- The walk of shapeOf: the table of instructions. Conditions: the number is an instruction's, or it is none. -/
import Derived.Test.YtjflllfkgbhemaaV1
import Derived.Deep.WholeRow
namespace Go.Proofs.Ytjflllfkgbhemaa
open Go.RowKit
/-- the instructions' names and operands -/
def table : List (ByteArray × ByteArray) := [(⟨#[101, 110, 100]⟩, ⟨#[]⟩), (⟨#[110, 117, 109]⟩, ⟨#[110]⟩), (⟨#[98, 111, 111, 108]⟩, ⟨#[98]⟩), (⟨#[118, 97, 114]⟩, ⟨#[118]⟩), (⟨#[108, 101, 110]⟩, ⟨#[113]⟩), (⟨#[99, 97, 112]⟩, ⟨#[113]⟩), (⟨#[115, 105, 122, 101]⟩, ⟨#[]⟩), (⟨#[116, 111, 116, 97, 108]⟩, ⟨#[]⟩), (⟨#[97, 116]⟩, ⟨#[113]⟩), (⟨#[116, 97, 103, 120]⟩, ⟨#[116]⟩), (⟨#[116, 97, 103, 101, 110, 100]⟩, ⟨#[113, 101, 116]⟩), (⟨#[109, 105, 110]⟩, ⟨#[]⟩), (⟨#[109, 97, 120]⟩, ⟨#[]⟩), (⟨#[110, 101, 103]⟩, ⟨#[]⟩), (⟨#[110, 111, 116]⟩, ⟨#[]⟩), (⟨#[109, 117, 108]⟩, ⟨#[]⟩), (⟨#[100, 105, 118]⟩, ⟨#[]⟩), (⟨#[97, 100, 100]⟩, ⟨#[]⟩), (⟨#[115, 117, 98]⟩, ⟨#[]⟩), (⟨#[101, 113]⟩, ⟨#[]⟩), (⟨#[108, 116]⟩, ⟨#[]⟩), (⟨#[108, 101]⟩, ⟨#[]⟩), (⟨#[106, 117, 109, 112]⟩, ⟨#[112]⟩), (⟨#[101, 108, 115, 101]⟩, ⟨#[112]⟩), (⟨#[108, 111, 111, 112]⟩, ⟨#[114]⟩), (⟨#[116, 117, 114, 110]⟩, ⟨#[112]⟩), (⟨#[113, 117, 105, 116]⟩, ⟨#[112]⟩), (⟨#[97, 103, 97, 105, 110]⟩, ⟨#[112]⟩), (⟨#[115, 101, 116]⟩, ⟨#[118]⟩), (⟨#[109, 97, 114, 107, 120]⟩, ⟨#[116]⟩), (⟨#[109, 97, 114, 107, 101, 110, 100]⟩, ⟨#[113, 101, 116]⟩), (⟨#[105, 110, 115, 101, 114, 116]⟩, ⟨#[113, 101]⟩), (⟨#[109, 111, 118, 101]⟩, ⟨#[113, 101]⟩), (⟨#[102, 111, 114, 103, 101, 116]⟩, ⟨#[]⟩), (⟨#[116, 97, 107, 101]⟩, ⟨#[113, 101]⟩), (⟨#[103, 105, 118, 101]⟩, ⟨#[113, 101]⟩), (⟨#[116, 101, 108, 108]⟩, ⟨#[]⟩), (⟨#[108, 111, 111, 115, 101]⟩, ⟨#[]⟩), (⟨#[115, 104, 105, 102, 116]⟩, ⟨#[113, 101, 113, 101]⟩), (⟨#[115, 112, 105, 108, 108]⟩, ⟨#[113, 101, 113, 101]⟩), (⟨#[101, 118, 105, 99, 116]⟩, ⟨#[113, 101]⟩), (⟨#[100, 114, 111, 112]⟩, ⟨#[113, 101]⟩)]
def tblL (l : List (ByteArray × ByteArray)) : List Value := l.flatMap fun x => [.string x.1, .string x.2]
theorem tblL_get {l : List (ByteArray × ByteArray)} {k : Nat} {x : ByteArray × ByteArray} (h : l[k]? = some x) : (tblL l)[k * 2]? = some (.string x.1) ∧ (tblL l)[k * 2 + 1]? = some (.string x.2) := by
  induction l generalizing k with
  | nil => simp at h
  | cons y ys ih =>
    cases k with
    | zero => simp at h; subst h; simp [tblL]
    | succ k =>
      simp at h
      have := ih h
      have e : tblL (y :: ys) = .string y.1 :: .string y.2 :: tblL ys := by simp [tblL]
      rw [e, show (k + 1) * 2 = k * 2 + 1 + 1 from by omega, show k * 2 + 1 + 1 + 1 = (k * 2 + 1) + 1 + 1 from rfl]
      simpa using this
theorem table_length : table.length = 42 := by decide

theorem table_in {k : Nat} (hk : k < 42) : ∃ x, table[k]? = some x := ⟨_, List.getElem?_eq_getElem (by rw [table_length]; exact hk)⟩
theorem tblL_size : (tblL table).toArray.size = 84 := by decide
theorem info135 : (Try.prog.info? 135).map (·.size) = some 84 := by kernel_rfl
set_option maxRecDepth 100000 in
set_option maxHeartbeats 4000000 in
theorem shapeOf_yes (w : World) (k : Nat) (x : ByteArray × ByteArray) (hx : table[k]? = some x) (hk : k < 42) : Calls Try.prog 42 #[.int .i64 (k : Int)] w fun en w' => en = .returned (.tuple #[.agg #[.string x.1, .string x.2], .bool true]) ∧ Below w.heap.size w w' := by
  obtain ⟨c1, c2⟩ := tblL_get hx
  have hst : ∀ l : List Value, l = tblL table → (storeCells ⟨w.heap.size + 1, 0, none⟩ l).run Try.prog ((w.alloc (.cells #[.string ⟨#[]⟩, .string ⟨#[]⟩] 93)).alloc (.cells Try.zeroCells135 135)) = .ok () ((w.alloc (.cells #[.string ⟨#[]⟩, .string ⟨#[]⟩] 93)).alloc (.cells (tblL table).toArray 135)) := by
    intro l hl
    subst hl
    have := run_storeCells_new (P := Try.prog) (w.alloc (.cells #[.string ⟨#[]⟩, .string ⟨#[]⟩] 93)) 135 Try.zeroCells135 (tblL table).toArray (by rw [tblL_size]; exact info135) (by rw [tblL_size]; kernel_rfl) (by kernel_rfl)
    simpa using this
  obtain ⟨W2, hW2⟩ : ∃ W2, (w.alloc (.cells #[.string ⟨#[]⟩, .string ⟨#[]⟩] 93)).alloc (.cells (tblL table).toArray 135) = W2 := ⟨_, rfl⟩
  have d1 : W2.cell? ⟨w.heap.size + 1, k * 2, none⟩ = some (.string x.1) := by
    have := (Blk.new (w.alloc (.cells #[.string ⟨#[]⟩, .string ⟨#[]⟩] 93)) 135 (tblL table).toArray).cell (k * 2)
    rw [hW2] at this
    simpa [c1] using this
  have d2 : W2.cell? ⟨w.heap.size + 1, k * 2 + 1, none⟩ = some (.string x.2) := by
    have := (Blk.new (w.alloc (.cells #[.string ⟨#[]⟩, .string ⟨#[]⟩] 93)) 135 (tblL table).toArray).cell (k * 2 + 1)
    rw [hW2] at this
    simpa [c2] using this
  have hB : Below w.heap.size w W2 := by rw [← hW2]; exact ((Below.refl _ w).alloc (Nat.le_refl _) _).alloc (by simp) _
  have hB0 : Blk W2 w.heap.size 93 #[.string ⟨#[]⟩, .string ⟨#[]⟩] := by rw [← hW2]; exact (Blk.new w 93 _).alloc _
  have r0 : W2.cell? ⟨w.heap.size, 0, none⟩ = some (.string ⟨#[]⟩) := by rw [hB0.cell]; rfl
  have r1 : W2.cell? ⟨w.heap.size, 1, none⟩ = some (.string ⟨#[]⟩) := by rw [hB0.cell]; rfl
  have s0 := hB0.frozen 0
  have s1 := hB0.frozen 1
  rw [hW2] at hst
  have HST := hide hst
  have HB := hide hB
  have HB0 := hide hB0
  clear hst hB hB0 c1 c2 hx hW2
  go_enter Try.func42, Try.ntmps42
  go_wp2
  rw [HST.out _ (by kernel_rfl)]
  go_wp2
  have b3 : Blk ((W2.setCell ⟨w.heap.size, 0, none⟩ (.string x.1)).setCell ⟨w.heap.size, 1, none⟩ (.string x.2)) w.heap.size 93 #[.string x.1, .string x.2] := by
    have := (HB0.out.set_ 0 (.string x.1)).set_ 1 (.string x.2)
    simpa using this
  have hl : Below w.heap.size w ((W2.setCell ⟨w.heap.size, 0, none⟩ (.string x.1)).setCell ⟨w.heap.size, 1, none⟩ (.string x.2)) := (HB.out.setCell (Nat.le_refl _) _).setCell (Nat.le_refl _) _
  generalize (W2.setCell ⟨w.heap.size, 0, none⟩ (.string x.1)).setCell ⟨w.heap.size, 1, none⟩ (.string x.2) = W3 at *
  have t0 : W3.cell? ⟨w.heap.size, 0, none⟩ = some (.string x.1) := by rw [b3.cell]; rfl
  have t1 : W3.cell? ⟨w.heap.size, 1, none⟩ = some (.string x.2) := by rw [b3.cell]; rfl
  have hres : Try.f42.results = #[.cell 2 93, .tmp 3] := by kernel_rfl
  refine bodyPost_ret (v := .tuple #[.agg #[.string x.1, .string x.2], .bool true]) ?_ rfl ⟨rfl, hl⟩
  simp only [results, hres]
  go_simp
set_option maxRecDepth 100000 in
set_option maxHeartbeats 4000000 in
theorem shapeOf_no (w : World) (n : Int) (hn : n < 0 ∨ 42 ≤ n) : Calls Try.prog 42 #[.int .i64 n] w fun en w' => en = .returned (.tuple #[.agg #[.string ⟨#[]⟩, .string ⟨#[]⟩], .bool false]) ∧ Below w.heap.size w w' := by
  have hst : ∀ l : List Value, l = tblL table → (storeCells ⟨w.heap.size + 1, 0, none⟩ l).run Try.prog ((w.alloc (.cells #[.string ⟨#[]⟩, .string ⟨#[]⟩] 93)).alloc (.cells Try.zeroCells135 135)) = .ok () ((w.alloc (.cells #[.string ⟨#[]⟩, .string ⟨#[]⟩] 93)).alloc (.cells (tblL table).toArray 135)) := by
    intro l hl
    subst hl
    have := run_storeCells_new (P := Try.prog) (w.alloc (.cells #[.string ⟨#[]⟩, .string ⟨#[]⟩] 93)) 135 Try.zeroCells135 (tblL table).toArray (by rw [tblL_size]; exact info135) (by rw [tblL_size]; kernel_rfl) (by kernel_rfl)
    simpa using this
  obtain ⟨W2, hW2⟩ : ∃ W2, (w.alloc (.cells #[.string ⟨#[]⟩, .string ⟨#[]⟩] 93)).alloc (.cells (tblL table).toArray 135) = W2 := ⟨_, rfl⟩
  have hB : Below w.heap.size w W2 := by rw [← hW2]; exact ((Below.refl _ w).alloc (Nat.le_refl _) _).alloc (by simp) _
  have hB0 : Blk W2 w.heap.size 93 #[.string ⟨#[]⟩, .string ⟨#[]⟩] := by rw [← hW2]; exact (Blk.new w 93 _).alloc _
  have r0 : W2.cell? ⟨w.heap.size, 0, none⟩ = some (.string ⟨#[]⟩) := by rw [hB0.cell]; rfl
  have r1 : W2.cell? ⟨w.heap.size, 1, none⟩ = some (.string ⟨#[]⟩) := by rw [hB0.cell]; rfl
  have s0 := hB0.frozen 0
  have s1 := hB0.frozen 1
  rw [hW2] at hst
  have HST := hide hst
  have HB := hide hB
  have HB0 := hide hB0
  clear hst hB hB0 hW2
  go_enter Try.func42, Try.ntmps42
  go_wp2
  rw [HST.out _ (by kernel_rfl)]
  have HN := hide hn
  clear hn
  by_cases hz : n < 0
  · go_wp2
    have b3 : Blk ((W2.setCell ⟨w.heap.size, 0, none⟩ (.string ⟨#[]⟩)).setCell ⟨w.heap.size, 1, none⟩ (.string ⟨#[]⟩)) w.heap.size 93 #[.string ⟨#[]⟩, .string ⟨#[]⟩] := by
      have := (HB0.out.set_ 0 (.string ⟨#[]⟩)).set_ 1 (.string ⟨#[]⟩)
      simpa using this
    have hl : Below w.heap.size w ((W2.setCell ⟨w.heap.size, 0, none⟩ (.string ⟨#[]⟩)).setCell ⟨w.heap.size, 1, none⟩ (.string ⟨#[]⟩)) := (HB.out.setCell (Nat.le_refl _) _).setCell (Nat.le_refl _) _
    generalize (W2.setCell ⟨w.heap.size, 0, none⟩ (.string ⟨#[]⟩)).setCell ⟨w.heap.size, 1, none⟩ (.string ⟨#[]⟩) = W3 at *
    have t0 : W3.cell? ⟨w.heap.size, 0, none⟩ = some (.string ⟨#[]⟩) := by rw [b3.cell]; rfl
    have t1 : W3.cell? ⟨w.heap.size, 1, none⟩ = some (.string ⟨#[]⟩) := by rw [b3.cell]; rfl
    have hres : Try.f42.results = #[.cell 2 93, .tmp 3] := by kernel_rfl
    refine bodyPost_ret (v := .tuple #[.agg #[.string ⟨#[]⟩, .string ⟨#[]⟩], .bool false]) ?_ rfl ⟨rfl, hl⟩
    simp only [results, hres]
    go_simp
  · have hz2 : 42 ≤ n := HN.out.resolve_left hz
    go_wp2
    have b3 : Blk ((W2.setCell ⟨w.heap.size, 0, none⟩ (.string ⟨#[]⟩)).setCell ⟨w.heap.size, 1, none⟩ (.string ⟨#[]⟩)) w.heap.size 93 #[.string ⟨#[]⟩, .string ⟨#[]⟩] := by
      have := (HB0.out.set_ 0 (.string ⟨#[]⟩)).set_ 1 (.string ⟨#[]⟩)
      simpa using this
    have hl : Below w.heap.size w ((W2.setCell ⟨w.heap.size, 0, none⟩ (.string ⟨#[]⟩)).setCell ⟨w.heap.size, 1, none⟩ (.string ⟨#[]⟩)) := (HB.out.setCell (Nat.le_refl _) _).setCell (Nat.le_refl _) _
    generalize (W2.setCell ⟨w.heap.size, 0, none⟩ (.string ⟨#[]⟩)).setCell ⟨w.heap.size, 1, none⟩ (.string ⟨#[]⟩) = W3 at *
    have t0 : W3.cell? ⟨w.heap.size, 0, none⟩ = some (.string ⟨#[]⟩) := by rw [b3.cell]; rfl
    have t1 : W3.cell? ⟨w.heap.size, 1, none⟩ = some (.string ⟨#[]⟩) := by rw [b3.cell]; rfl
    have hres : Try.f42.results = #[.cell 2 93, .tmp 3] := by kernel_rfl
    refine bodyPost_ret (v := .tuple #[.agg #[.string ⟨#[]⟩, .string ⟨#[]⟩], .bool false]) ?_ rfl ⟨rfl, hl⟩
    simp only [results, hres]
    go_simp
end Go.Proofs.Ytjflllfkgbhemaa
