/- The walks of with (low), without (high). Conditions: the bounds that are named. -/
import Derived.Test.YtjflllfkgbhemaaV9
namespace Go.Proofs.Ytjflllfkgbhemaa
open Go.RowKit

theorem lv_snoc {ls : List Int} {t : Int} {i : Nat} (h : i < ls.length) : lv (ls ++ [t]) i = lv ls i := by simp [lv, List.getElem?_append_left h]
theorem lv_snoc_at {ls : List Int} {t : Int} {i : Nat} (h : ls.length = i) : lv (ls ++ [t]) i = t := by subst h; simp [lv]
theorem lv_snoc_out {ls : List Int} {t : Int} {i : Nat} (h : ls.length < i) : lv (ls ++ [t]) i = 0 := lv_out (by simp; omega)
set_option linter.unusedVariables false in
set_option maxRecDepth 100000 in
set_option maxHeartbeats 8000000 in
theorem with_low (w : World) (s : St) (t : Int) (oa : Option Addr) (ml ca k : Nat) (hk : s.ls.length = k) (h8 : k < 8) : Calls Try.prog 72 #[.agg (s.cells (.slice oa ml ca)), .int .i64 t] w fun en w' => en = .returned (.agg (({ s with ls := s.ls ++ [t] } : St).cells (.slice oa ml ca))) ∧ Below w.heap.size w w' := by
  have hres : Try.f72.results = #[.cell 4 74] := by kernel_rfl
  obtain ⟨there, ty, ls, hand⟩ := s
  simp only [St.cells] at *
  rw [List.length_append, List.length_singleton, hk, show ((k + 1 : Nat) : Int) = (k : Int) + 1 from by simp]
  have E0 : (0 < k → lv (ls ++ [t]) 0 = lv ls 0) ∧ (k = 0 → lv (ls ++ [t]) 0 = t) ∧ (k < 0 → lv (ls ++ [t]) 0 = 0) ∧ (k ≤ 0 → lv ls 0 = 0) := ⟨fun h => lv_snoc (by omega), fun h => lv_snoc_at (by omega), fun h => lv_snoc_out (by omega), fun h => lv_out (by omega)⟩
  have E1 : (1 < k → lv (ls ++ [t]) 1 = lv ls 1) ∧ (k = 1 → lv (ls ++ [t]) 1 = t) ∧ (k < 1 → lv (ls ++ [t]) 1 = 0) ∧ (k ≤ 1 → lv ls 1 = 0) := ⟨fun h => lv_snoc (by omega), fun h => lv_snoc_at (by omega), fun h => lv_snoc_out (by omega), fun h => lv_out (by omega)⟩
  have E2 : (2 < k → lv (ls ++ [t]) 2 = lv ls 2) ∧ (k = 2 → lv (ls ++ [t]) 2 = t) ∧ (k < 2 → lv (ls ++ [t]) 2 = 0) ∧ (k ≤ 2 → lv ls 2 = 0) := ⟨fun h => lv_snoc (by omega), fun h => lv_snoc_at (by omega), fun h => lv_snoc_out (by omega), fun h => lv_out (by omega)⟩
  have E3 : (3 < k → lv (ls ++ [t]) 3 = lv ls 3) ∧ (k = 3 → lv (ls ++ [t]) 3 = t) ∧ (k < 3 → lv (ls ++ [t]) 3 = 0) ∧ (k ≤ 3 → lv ls 3 = 0) := ⟨fun h => lv_snoc (by omega), fun h => lv_snoc_at (by omega), fun h => lv_snoc_out (by omega), fun h => lv_out (by omega)⟩
  have E4 : (4 < k → lv (ls ++ [t]) 4 = lv ls 4) ∧ (k = 4 → lv (ls ++ [t]) 4 = t) ∧ (k < 4 → lv (ls ++ [t]) 4 = 0) ∧ (k ≤ 4 → lv ls 4 = 0) := ⟨fun h => lv_snoc (by omega), fun h => lv_snoc_at (by omega), fun h => lv_snoc_out (by omega), fun h => lv_out (by omega)⟩
  have E5 : (5 < k → lv (ls ++ [t]) 5 = lv ls 5) ∧ (k = 5 → lv (ls ++ [t]) 5 = t) ∧ (k < 5 → lv (ls ++ [t]) 5 = 0) ∧ (k ≤ 5 → lv ls 5 = 0) := ⟨fun h => lv_snoc (by omega), fun h => lv_snoc_at (by omega), fun h => lv_snoc_out (by omega), fun h => lv_out (by omega)⟩
  have E6 : (6 < k → lv (ls ++ [t]) 6 = lv ls 6) ∧ (k = 6 → lv (ls ++ [t]) 6 = t) ∧ (k < 6 → lv (ls ++ [t]) 6 = 0) ∧ (k ≤ 6 → lv ls 6 = 0) := ⟨fun h => lv_snoc (by omega), fun h => lv_snoc_at (by omega), fun h => lv_snoc_out (by omega), fun h => lv_out (by omega)⟩
  have E7 : (7 < k → lv (ls ++ [t]) 7 = lv ls 7) ∧ (k = 7 → lv (ls ++ [t]) 7 = t) ∧ (k < 7 → lv (ls ++ [t]) 7 = 0) ∧ (k ≤ 7 → lv ls 7 = 0) := ⟨fun h => lv_snoc (by omega), fun h => lv_snoc_at (by omega), fun h => lv_snoc_out (by omega), fun h => lv_out (by omega)⟩
  clear hk
  obtain rfl | rfl | rfl | rfl | rfl | rfl | rfl | rfl : k = 0 ∨ k = 1 ∨ k = 2 ∨ k = 3 ∨ k = 4 ∨ k = 5 ∨ k = 6 ∨ k = 7 := by omega
  · clear h8
    have e0 := E0.2.1 (by omega)
    have o0 := E0.2.2.2 (by omega)
    have e1 := E1.2.2.1 (by omega)
    have o1 := E1.2.2.2 (by omega)
    have e2 := E2.2.2.1 (by omega)
    have o2 := E2.2.2.2 (by omega)
    have e3 := E3.2.2.1 (by omega)
    have o3 := E3.2.2.2 (by omega)
    have e4 := E4.2.2.1 (by omega)
    have o4 := E4.2.2.2 (by omega)
    have e5 := E5.2.2.1 (by omega)
    have o5 := E5.2.2.2 (by omega)
    have e6 := E6.2.2.1 (by omega)
    have o6 := E6.2.2.2 (by omega)
    have e7 := E7.2.2.1 (by omega)
    have o7 := E7.2.2.2 (by omega)
    clear E0 E1 E2 E3 E4 E5 E6 E7
    rw [e0, e1, e2, e3, e4, e5, e6, e7]
    go_enter Try.func72, Try.ntmps72
    go_wp2
    refine bodyPost_ret (v := _) ?_ rfl ⟨rfl, ((Below.refl _ w).alloc (Nat.le_refl _) _).alloc (by simp) _⟩
    simp only [results, hres]
    go_simp
  · clear h8
    have e0 := E0.1 (by omega)
    have e1 := E1.2.1 (by omega)
    have o1 := E1.2.2.2 (by omega)
    have e2 := E2.2.2.1 (by omega)
    have o2 := E2.2.2.2 (by omega)
    have e3 := E3.2.2.1 (by omega)
    have o3 := E3.2.2.2 (by omega)
    have e4 := E4.2.2.1 (by omega)
    have o4 := E4.2.2.2 (by omega)
    have e5 := E5.2.2.1 (by omega)
    have o5 := E5.2.2.2 (by omega)
    have e6 := E6.2.2.1 (by omega)
    have o6 := E6.2.2.2 (by omega)
    have e7 := E7.2.2.1 (by omega)
    have o7 := E7.2.2.2 (by omega)
    clear E0 E1 E2 E3 E4 E5 E6 E7
    rw [e0, e1, e2, e3, e4, e5, e6, e7]
    go_enter Try.func72, Try.ntmps72
    go_wp2
    refine bodyPost_ret (v := _) ?_ rfl ⟨rfl, ((Below.refl _ w).alloc (Nat.le_refl _) _).alloc (by simp) _⟩
    simp only [results, hres]
    go_simp
  · clear h8
    have e0 := E0.1 (by omega)
    have e1 := E1.1 (by omega)
    have e2 := E2.2.1 (by omega)
    have o2 := E2.2.2.2 (by omega)
    have e3 := E3.2.2.1 (by omega)
    have o3 := E3.2.2.2 (by omega)
    have e4 := E4.2.2.1 (by omega)
    have o4 := E4.2.2.2 (by omega)
    have e5 := E5.2.2.1 (by omega)
    have o5 := E5.2.2.2 (by omega)
    have e6 := E6.2.2.1 (by omega)
    have o6 := E6.2.2.2 (by omega)
    have e7 := E7.2.2.1 (by omega)
    have o7 := E7.2.2.2 (by omega)
    clear E0 E1 E2 E3 E4 E5 E6 E7
    rw [e0, e1, e2, e3, e4, e5, e6, e7]
    go_enter Try.func72, Try.ntmps72
    go_wp2
    refine bodyPost_ret (v := _) ?_ rfl ⟨rfl, ((Below.refl _ w).alloc (Nat.le_refl _) _).alloc (by simp) _⟩
    simp only [results, hres]
    go_simp
  · clear h8
    have e0 := E0.1 (by omega)
    have e1 := E1.1 (by omega)
    have e2 := E2.1 (by omega)
    have e3 := E3.2.1 (by omega)
    have o3 := E3.2.2.2 (by omega)
    have e4 := E4.2.2.1 (by omega)
    have o4 := E4.2.2.2 (by omega)
    have e5 := E5.2.2.1 (by omega)
    have o5 := E5.2.2.2 (by omega)
    have e6 := E6.2.2.1 (by omega)
    have o6 := E6.2.2.2 (by omega)
    have e7 := E7.2.2.1 (by omega)
    have o7 := E7.2.2.2 (by omega)
    clear E0 E1 E2 E3 E4 E5 E6 E7
    rw [e0, e1, e2, e3, e4, e5, e6, e7]
    go_enter Try.func72, Try.ntmps72
    go_wp2
    refine bodyPost_ret (v := _) ?_ rfl ⟨rfl, ((Below.refl _ w).alloc (Nat.le_refl _) _).alloc (by simp) _⟩
    simp only [results, hres]
    go_simp
  · clear h8
    have e0 := E0.1 (by omega)
    have e1 := E1.1 (by omega)
    have e2 := E2.1 (by omega)
    have e3 := E3.1 (by omega)
    have e4 := E4.2.1 (by omega)
    have o4 := E4.2.2.2 (by omega)
    have e5 := E5.2.2.1 (by omega)
    have o5 := E5.2.2.2 (by omega)
    have e6 := E6.2.2.1 (by omega)
    have o6 := E6.2.2.2 (by omega)
    have e7 := E7.2.2.1 (by omega)
    have o7 := E7.2.2.2 (by omega)
    clear E0 E1 E2 E3 E4 E5 E6 E7
    rw [e0, e1, e2, e3, e4, e5, e6, e7]
    go_enter Try.func72, Try.ntmps72
    go_wp2
    refine bodyPost_ret (v := _) ?_ rfl ⟨rfl, ((Below.refl _ w).alloc (Nat.le_refl _) _).alloc (by simp) _⟩
    simp only [results, hres]
    go_simp
  · clear h8
    have e0 := E0.1 (by omega)
    have e1 := E1.1 (by omega)
    have e2 := E2.1 (by omega)
    have e3 := E3.1 (by omega)
    have e4 := E4.1 (by omega)
    have e5 := E5.2.1 (by omega)
    have o5 := E5.2.2.2 (by omega)
    have e6 := E6.2.2.1 (by omega)
    have o6 := E6.2.2.2 (by omega)
    have e7 := E7.2.2.1 (by omega)
    have o7 := E7.2.2.2 (by omega)
    clear E0 E1 E2 E3 E4 E5 E6 E7
    rw [e0, e1, e2, e3, e4, e5, e6, e7]
    go_enter Try.func72, Try.ntmps72
    go_wp2
    refine bodyPost_ret (v := _) ?_ rfl ⟨rfl, ((Below.refl _ w).alloc (Nat.le_refl _) _).alloc (by simp) _⟩
    simp only [results, hres]
    go_simp
  · clear h8
    have e0 := E0.1 (by omega)
    have e1 := E1.1 (by omega)
    have e2 := E2.1 (by omega)
    have e3 := E3.1 (by omega)
    have e4 := E4.1 (by omega)
    have e5 := E5.1 (by omega)
    have e6 := E6.2.1 (by omega)
    have o6 := E6.2.2.2 (by omega)
    have e7 := E7.2.2.1 (by omega)
    have o7 := E7.2.2.2 (by omega)
    clear E0 E1 E2 E3 E4 E5 E6 E7
    rw [e0, e1, e2, e3, e4, e5, e6, e7]
    go_enter Try.func72, Try.ntmps72
    go_wp2
    refine bodyPost_ret (v := _) ?_ rfl ⟨rfl, ((Below.refl _ w).alloc (Nat.le_refl _) _).alloc (by simp) _⟩
    simp only [results, hres]
    go_simp
  · clear h8
    have e0 := E0.1 (by omega)
    have e1 := E1.1 (by omega)
    have e2 := E2.1 (by omega)
    have e3 := E3.1 (by omega)
    have e4 := E4.1 (by omega)
    have e5 := E5.1 (by omega)
    have e6 := E6.1 (by omega)
    have e7 := E7.2.1 (by omega)
    have o7 := E7.2.2.2 (by omega)
    clear E0 E1 E2 E3 E4 E5 E6 E7
    rw [e0, e1, e2, e3, e4, e5, e6, e7]
    go_enter Try.func72, Try.ntmps72
    go_wp2
    refine bodyPost_ret (v := _) ?_ rfl ⟨rfl, ((Below.refl _ w).alloc (Nat.le_refl _) _).alloc (by simp) _⟩
    simp only [results, hres]
    go_simp
set_option linter.unusedVariables false in
set_option maxRecDepth 100000 in
set_option maxHeartbeats 8000000 in
theorem without_high (w : World) (s : St) (g k ca : Nat) (hk : s.ls.length = k + 9) (hl : k ≤ 4194304) (hc : k + 1 ≤ ca) (hc2 : ca ≤ maxLen) : Calls Try.prog 71 #[.agg (s.cells (.slice (some ⟨g, 0, none⟩) (k + 1) ca))] w fun en w' => en = .returned (.agg (({ s with ls := s.ls.dropLast } : St).cells (.slice (some ⟨g, 0, none⟩) k ca))) ∧ Below w.heap.size w w' := by
  have hres : Try.f71.results = #[.cell 2 74] := by kernel_rfl
  obtain ⟨there, ty, ls, hand⟩ := s
  simp only [St.cells] at *
  unfold maxLen at *
  rw [List.length_dropLast, hk, show ((k + 9 : Nat) : Int) = (k : Int) + 9 from by simp, show ((k + 9 - 1 : Nat) : Int) = (k : Int) + 9 - 1 from by omega]
  rw [lv_init (ls := ls) (i := 0) (by omega)]
  rw [lv_init (ls := ls) (i := 1) (by omega)]
  rw [lv_init (ls := ls) (i := 2) (by omega)]
  rw [lv_init (ls := ls) (i := 3) (by omega)]
  rw [lv_init (ls := ls) (i := 4) (by omega)]
  rw [lv_init (ls := ls) (i := 5) (by omega)]
  rw [lv_init (ls := ls) (i := 6) (by omega)]
  rw [lv_init (ls := ls) (i := 7) (by omega)]
  clear hk
  go_enter Try.func71, Try.ntmps71
  go_wp2
  refine bodyPost_ret (v := _) ?_ rfl ⟨rfl, ((Below.refl _ w).alloc (Nat.le_refl _) _).alloc (by simp) _⟩
  simp only [results, hres]
  go_simp
end Go.Proofs.Ytjflllfkgbhemaa
