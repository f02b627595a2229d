/- The walk of small: a program of one queue. Conditions: none. -/
import Derived.Test.YtjflllfkgbhemaaV11
namespace Go.Proofs.Ytjflllfkgbhemaa
open Go.RowKit
def smallP : Prg := ⟨[false], [], [], [-1], 0, [⟨31, 0, 0, 0, 0⟩, ⟨0, 0, 0, 0, 0⟩]⟩
def smallV (n : Nat) : PV := ⟨some ⟨n, 0, none⟩, none, none, some ⟨n + 1, 0, none⟩, some ⟨n + 2, 0, none⟩, 1, 1, 0, 0, 0, 0, 1, 1, 2, 2, 0⟩
theorem small_mem {w : World} {n : Nat} (h1 : Blk w n 4 #[.bool false]) (h2 : Blk w (n + 1) 3 #[.int .i64 (-1)]) (h3 : Blk w (n + 2) 46 #[.int .i64 31, .int .i64 0, .int .i64 0, .int .i64 0, .int .i64 0, .int .i64 0, .int .i64 0, .int .i64 0, .int .i64 0, .int .i64 0]) : PMem w (smallV n) smallP where
  gl := rfl
  vl := rfl
  tl := rfl
  ol := rfl
  cl := rfl
  miss := rfl
  g := fun i x hx => by
    match i, hx with
    | 0, hx => simp [smallP] at hx; subst hx; exact ⟨_, rfl, h1.lt, h1.cell 0⟩
    | i + 1, hx => simp [smallP] at hx
  v := fun i x hx => by simp [smallP] at hx
  t := fun i x hx => by simp [smallP] at hx
  o := fun i x hx => by
    match i, hx with
    | 0, hx => simp [smallP] at hx; subst hx; exact ⟨_, rfl, h2.lt, h2.cell 0⟩
    | i + 1, hx => simp [smallP] at hx
  c := fun i x hx => by
    match i, hx with
    | 0, hx => simp [smallP] at hx; subst hx; exact ⟨⟨_, rfl, h3.lt, h3.cell 0⟩, ⟨_, rfl, h3.lt, h3.cell 1⟩, ⟨_, rfl, h3.lt, h3.cell 2⟩, ⟨_, rfl, h3.lt, h3.cell 3⟩, ⟨_, rfl, h3.lt, h3.cell 4⟩⟩
    | 1, hx => simp [smallP] at hx; subst hx; exact ⟨⟨_, rfl, h3.lt, h3.cell 5⟩, ⟨_, rfl, h3.lt, h3.cell 6⟩, ⟨_, rfl, h3.lt, h3.cell 7⟩, ⟨_, rfl, h3.lt, h3.cell 8⟩, ⟨_, rfl, h3.lt, h3.cell 9⟩⟩
    | i + 2, hx => simp [smallP] at hx
  lens := by simp [smallV, maxLen]
theorem small_mv {w : World} {n : Nat} (h2 : Blk w (n + 1) 3 #[.int .i64 (-1)]) : Mv w (smallV n).oa (smallV n).oc smallP.os :=
  ⟨by simp [smallV, smallP], by simp [smallV, maxLen], by simp [smallV], fun a ha => by simp [smallV] at ha; subst ha; exact ⟨_, rfl, h2.lt⟩, fun i x hx => by
    match i, hx with
    | 0, hx => simp [smallP] at hx; subst hx; exact ⟨_, rfl, h2.lt, h2.cell 0⟩
    | i + 1, hx => simp [smallP] at hx⟩
set_option maxHeartbeats 4000000 in
theorem small_i (w : World) : Calls Try.prog 21 #[] w fun en w' => ∃ n, en = .returned (smallV n).val ∧ PMem w' (smallV n) smallP ∧ Mv w' (smallV n).oa (smallV n).oc smallP.os ∧ Below w.heap.size w w' ∧ w.heap.size ≤ n ∧
    Blk w' n 4 #[.bool false] ∧ Blk w' (n + 1) 3 #[.int .i64 (-1)] := by
  have hres : Try.f21.results = #[.cell 0 28] := by kernel_rfl
  go_enter Try.func21, Try.ntmps21
  go_wp2_with fail
  have k0 : Blk ((((w.alloc (.cells #[.slice (some ⟨w.heap.size + 1, 0, none⟩) 1 1, .slice none 0 0, .slice none 0 0, .slice (some ⟨w.heap.size + 1 + 1, 0, none⟩) 1 1, .int .i64 0, .slice (some ⟨w.heap.size + 1 + 1 + 1, 0, none⟩) 2 2] 28)).alloc (.cells #[.bool false] 4)).alloc (.cells #[.int .i64 (-1)] 3)).alloc (.cells #[.int .i64 31, .int .i64 0, .int .i64 0, .int .i64 0, .int .i64 0, .int .i64 0, .int .i64 0, .int .i64 0, .int .i64 0, .int .i64 0] 46)) w.heap.size 28 #[.slice (some ⟨w.heap.size + 1, 0, none⟩) 1 1, .slice none 0 0, .slice none 0 0, .slice (some ⟨w.heap.size + 1 + 1, 0, none⟩) 1 1, .int .i64 0, .slice (some ⟨w.heap.size + 1 + 1 + 1, 0, none⟩) 2 2] := (((Blk.new w 28 _).alloc _).alloc _).alloc _
  have k1 : Blk ((((w.alloc (.cells #[.slice (some ⟨w.heap.size + 1, 0, none⟩) 1 1, .slice none 0 0, .slice none 0 0, .slice (some ⟨w.heap.size + 1 + 1, 0, none⟩) 1 1, .int .i64 0, .slice (some ⟨w.heap.size + 1 + 1 + 1, 0, none⟩) 2 2] 28)).alloc (.cells #[.bool false] 4)).alloc (.cells #[.int .i64 (-1)] 3)).alloc (.cells #[.int .i64 31, .int .i64 0, .int .i64 0, .int .i64 0, .int .i64 0, .int .i64 0, .int .i64 0, .int .i64 0, .int .i64 0, .int .i64 0] 46)) (w.heap.size + 1) 4 #[.bool false] := by
    have := ((Blk.new (w.alloc (.cells #[.slice (some ⟨w.heap.size + 1, 0, none⟩) 1 1, .slice none 0 0, .slice none 0 0, .slice (some ⟨w.heap.size + 1 + 1, 0, none⟩) 1 1, .int .i64 0, .slice (some ⟨w.heap.size + 1 + 1 + 1, 0, none⟩) 2 2] 28)) 4 #[.bool false]).alloc (.cells #[.int .i64 (-1)] 3)).alloc (.cells #[.int .i64 31, .int .i64 0, .int .i64 0, .int .i64 0, .int .i64 0, .int .i64 0, .int .i64 0, .int .i64 0, .int .i64 0, .int .i64 0] 46)
    simpa using this
  have k2 : Blk ((((w.alloc (.cells #[.slice (some ⟨w.heap.size + 1, 0, none⟩) 1 1, .slice none 0 0, .slice none 0 0, .slice (some ⟨w.heap.size + 1 + 1, 0, none⟩) 1 1, .int .i64 0, .slice (some ⟨w.heap.size + 1 + 1 + 1, 0, none⟩) 2 2] 28)).alloc (.cells #[.bool false] 4)).alloc (.cells #[.int .i64 (-1)] 3)).alloc (.cells #[.int .i64 31, .int .i64 0, .int .i64 0, .int .i64 0, .int .i64 0, .int .i64 0, .int .i64 0, .int .i64 0, .int .i64 0, .int .i64 0] 46)) (w.heap.size + 1 + 1) 3 #[.int .i64 (-1)] := by
    have := (Blk.new ((w.alloc (.cells #[.slice (some ⟨w.heap.size + 1, 0, none⟩) 1 1, .slice none 0 0, .slice none 0 0, .slice (some ⟨w.heap.size + 1 + 1, 0, none⟩) 1 1, .int .i64 0, .slice (some ⟨w.heap.size + 1 + 1 + 1, 0, none⟩) 2 2] 28)).alloc (.cells #[.bool false] 4)) 3 #[.int .i64 (-1)]).alloc (.cells #[.int .i64 31, .int .i64 0, .int .i64 0, .int .i64 0, .int .i64 0, .int .i64 0, .int .i64 0, .int .i64 0, .int .i64 0, .int .i64 0] 46)
    simpa using this
  have k3 : Blk ((((w.alloc (.cells #[.slice (some ⟨w.heap.size + 1, 0, none⟩) 1 1, .slice none 0 0, .slice none 0 0, .slice (some ⟨w.heap.size + 1 + 1, 0, none⟩) 1 1, .int .i64 0, .slice (some ⟨w.heap.size + 1 + 1 + 1, 0, none⟩) 2 2] 28)).alloc (.cells #[.bool false] 4)).alloc (.cells #[.int .i64 (-1)] 3)).alloc (.cells #[.int .i64 31, .int .i64 0, .int .i64 0, .int .i64 0, .int .i64 0, .int .i64 0, .int .i64 0, .int .i64 0, .int .i64 0, .int .i64 0] 46)) (w.heap.size + 1 + 1 + 1) 46 #[.int .i64 31, .int .i64 0, .int .i64 0, .int .i64 0, .int .i64 0, .int .i64 0, .int .i64 0, .int .i64 0, .int .i64 0, .int .i64 0] := by
    have := Blk.new (((w.alloc (.cells #[.slice (some ⟨w.heap.size + 1, 0, none⟩) 1 1, .slice none 0 0, .slice none 0 0, .slice (some ⟨w.heap.size + 1 + 1, 0, none⟩) 1 1, .int .i64 0, .slice (some ⟨w.heap.size + 1 + 1 + 1, 0, none⟩) 2 2] 28)).alloc (.cells #[.bool false] 4)).alloc (.cells #[.int .i64 (-1)] 3)) 46 #[.int .i64 31, .int .i64 0, .int .i64 0, .int .i64 0, .int .i64 0, .int .i64 0, .int .i64 0, .int .i64 0, .int .i64 0, .int .i64 0]
    simpa using this
  have hB : Below w.heap.size w ((((w.alloc (.cells #[.slice (some ⟨w.heap.size + 1, 0, none⟩) 1 1, .slice none 0 0, .slice none 0 0, .slice (some ⟨w.heap.size + 1 + 1, 0, none⟩) 1 1, .int .i64 0, .slice (some ⟨w.heap.size + 1 + 1 + 1, 0, none⟩) 2 2] 28)).alloc (.cells #[.bool false] 4)).alloc (.cells #[.int .i64 (-1)] 3)).alloc (.cells #[.int .i64 31, .int .i64 0, .int .i64 0, .int .i64 0, .int .i64 0, .int .i64 0, .int .i64 0, .int .i64 0, .int .i64 0, .int .i64 0] 46)) := ((((Below.refl _ w).alloc (Nat.le_refl _) _).alloc (by simp) _).alloc (by simp; omega) _).alloc (by simp; omega) _
  generalize ((((w.alloc (.cells #[.slice (some ⟨w.heap.size + 1, 0, none⟩) 1 1, .slice none 0 0, .slice none 0 0, .slice (some ⟨w.heap.size + 1 + 1, 0, none⟩) 1 1, .int .i64 0, .slice (some ⟨w.heap.size + 1 + 1 + 1, 0, none⟩) 2 2] 28)).alloc (.cells #[.bool false] 4)).alloc (.cells #[.int .i64 (-1)] 3)).alloc (.cells #[.int .i64 31, .int .i64 0, .int .i64 0, .int .i64 0, .int .i64 0, .int .i64 0, .int .i64 0, .int .i64 0, .int .i64 0, .int .i64 0] 46)) = W at *
  have z0 : W.cell? ⟨w.heap.size, 0, none⟩ = some (.slice (some ⟨w.heap.size + 1, 0, none⟩) 1 1) := by rw [k0.cell]; rfl
  have z1 : W.cell? ⟨w.heap.size, 1, none⟩ = some (.slice none 0 0) := by rw [k0.cell]; rfl
  have z2 : W.cell? ⟨w.heap.size, 2, none⟩ = some (.slice none 0 0) := by rw [k0.cell]; rfl
  have z3 : W.cell? ⟨w.heap.size, 3, none⟩ = some (.slice (some ⟨w.heap.size + 1 + 1, 0, none⟩) 1 1) := by rw [k0.cell]; rfl
  have z4 : W.cell? ⟨w.heap.size, 4, none⟩ = some (.int .i64 0) := by rw [k0.cell]; rfl
  have z5 : W.cell? ⟨w.heap.size, 5, none⟩ = some (.slice (some ⟨w.heap.size + 1 + 1 + 1, 0, none⟩) 2 2) := by rw [k0.cell]; rfl
  refine bodyPost_ret (v := (smallV (w.heap.size + 1)).val) ?_ rfl ⟨w.heap.size + 1, rfl, small_mem k1 k2 k3, small_mv k2, hB, by omega, k1, k2⟩
  simp only [results, hres, smallV, PV.val]
  go_simp
end Go.Proofs.Ytjflllfkgbhemaa
