/- The walk of ArenaSeqs, where no arena is opened, or there are no lists. Conditions: those. -/
import Derived.Test.YtbjmmfoklnhiiaaX2
namespace Go.Proofs.Ytbjmmfoklnhiiaa
open Go.RowKit Go.Shelf
set_option maxRecDepth 100000 in
set_option maxHeartbeats 1000000 in
theorem seqs_nil (w : World) (n l st : Int) (o1 o2 : Option Addr) (l1 c1 l2 c2 : Nat) (hb : 2000 < n ∨ newE n l = 1) : Calls Try.prog 6 #[.int .i64 n, .int .i64 l, .slice o1 l1 c1, .slice o2 l2 c2, .int .i64 st] w fun en w' => en = .returned (.bool true) ∧ Below w.heap.size w w' := by
  have HK := fun W => hide (known_i W)
  have HN := fun W => hide (open_no W n l hb)
  have hres : Try.f6.results = #[.cell 10 4] := by kernel_rfl
  clear hb
  go_enter Try.func6, Try.ntmps6
  go_wp2_with
      (first
      | (go_at_call 10
         refine (HK _).out.mono ?_
         rintro en w1 ⟨rfl, hB1⟩
         have hbw := ((((Below.refl _ w).alloc (Nat.le_refl _) (.cells #[.slice o2 l2 c2] 23)).alloc (by simp) (.cells #[.int .i64 st] 3)).alloc (by simp; omega) (.cells #[.bool false] 4)).trans (hB1.mono (by simp; omega))
         have k2 : Blk w1 (w.heap.size + 1 + 1) 4 #[.bool false] := by
           have := (Blk.new ((w.alloc (.cells #[.slice o2 l2 c2] 23)).alloc (.cells #[.int .i64 st] 3)) 4 #[.bool false]).below hB1 (by simp)
           simpa using this
         have KB := hide hbw
         have K2 := hide k2
         have cz : (w1.alloc (.cells #[.pointer none] 24)).cell? ⟨w.heap.size + 1 + 1, 0, none⟩ = some (.bool false) := by rw [(k2.alloc _).cell]; rfl
         have fz := (k2.alloc (.cells #[.pointer none] 24)).frozen 0
         clear hB1 hbw k2)
      | (go_at_call 11
         refine (HN _).out.mono ?_
         rintro en w2 ⟨rfl, rfl⟩))
  all_goals
    have hlw : Below w.heap.size w ((w1.alloc (.cells #[.pointer none] 24)).setCell ⟨w.heap.size + 1 + 1, 0, none⟩ (.bool true)) := (KB.out.alloc (by have := K2.out.lt; omega) _).setCell (by show w.heap.size ≤ w.heap.size + 1 + 1; omega) _
    have k3 : Blk ((w1.alloc (.cells #[.pointer none] 24)).setCell ⟨w.heap.size + 1 + 1, 0, none⟩ (.bool true)) (w.heap.size + 1 + 1) 4 #[.bool true] := by
      have := (K2.out.alloc (.cells #[.pointer none] 24)).set_ 0 (.bool true)
      simpa using this
    generalize (w1.alloc (.cells #[.pointer none] 24)).setCell ⟨w.heap.size + 1 + 1, 0, none⟩ (.bool true) = Wz at *
    have c3 : Wz.cell? ⟨w.heap.size + 1 + 1, 0, none⟩ = some (.bool true) := by rw [k3.cell]; rfl
    refine bodyPost_ret (v := .bool true) ?_ rfl ⟨rfl, hlw⟩
    simp only [results, hres]
    go_simp
set_option maxRecDepth 100000 in
set_option maxHeartbeats 1000000 in
theorem seqs_zero (w : World) (nn : Nat) (st : Int) (o1 o2 : Option Addr) (l1 c1 l2 c2 : Nat) (hn2 : nn ≤ 2000) (HE : Hid (newE (nn : Int) ((0 : Nat) : Int) = 0)) : Calls Try.prog 6 #[.int .i64 (nn : Int), .int .i64 ((0 : Nat) : Int), .slice o1 l1 c1, .slice o2 l2 c2, .int .i64 st] w fun en w' => en = .returned (.bool true) ∧ Below w.heap.size w w' := by
  have HK := fun W => hide (known_i W)
  have hres : Try.f6.results = #[.cell 10 4] := by kernel_rfl
  go_enter Try.func6, Try.ntmps6
  go_wp2_with
      (first
      | (go_at_call 10
         refine (HK _).out.mono ?_
         rintro en w1 ⟨rfl, hB1⟩
         have hbw := ((((Below.refl _ w).alloc (Nat.le_refl _) (.cells #[.slice o2 l2 c2] 23)).alloc (by simp) (.cells #[.int .i64 st] 3)).alloc (by simp; omega) (.cells #[.bool false] 4)).trans (hB1.mono (by simp; omega))
         have k2 : Blk w1 (w.heap.size + 1 + 1) 4 #[.bool false] := by
           have := (Blk.new ((w.alloc (.cells #[.slice o2 l2 c2] 23)).alloc (.cells #[.int .i64 st] 3)) 4 #[.bool false]).below hB1 (by simp)
           simpa using this
         have KB := hide hbw
         have K2 := hide k2
         clear hB1 hbw k2)
      | (go_at_call 11
         refine ((Ars.none_ _ w1 nn 0).open_ (Nat.le_refl _) hn2 HE.out).mono ?_
         rintro en w2 ⟨a, rfl, _, _, hB2⟩
         have k4 := K2.out.below hB2 K2.out.lt
         have cz : (w2.alloc (.cells #[.pointer (some ⟨a, 0, none⟩)] 24)).cell? ⟨w.heap.size + 1 + 1, 0, none⟩ = some (.bool false) := by rw [(k4.alloc _).cell]; rfl
         have fz := (k4.alloc (.cells #[.pointer (some ⟨a, 0, none⟩)] 24)).frozen 0
         have K4 := hide k4
         have KB4 := hide (KB.out.trans (hB2.mono KB.out.size))
         clear hB2 k4))
  all_goals
    have hlw : Below w.heap.size w ((w2.alloc (.cells #[.pointer (some ⟨a, 0, none⟩)] 24)).setCell ⟨w.heap.size + 1 + 1, 0, none⟩ (.bool true)) := (KB4.out.alloc (by have := K4.out.lt; omega) _).setCell (by show w.heap.size ≤ w.heap.size + 1 + 1; omega) _
    have k3 : Blk ((w2.alloc (.cells #[.pointer (some ⟨a, 0, none⟩)] 24)).setCell ⟨w.heap.size + 1 + 1, 0, none⟩ (.bool true)) (w.heap.size + 1 + 1) 4 #[.bool true] := by
      have := (K4.out.alloc (.cells #[.pointer (some ⟨a, 0, none⟩)] 24)).set_ 0 (.bool true)
      simpa using this
    generalize (w2.alloc (.cells #[.pointer (some ⟨a, 0, none⟩)] 24)).setCell ⟨w.heap.size + 1 + 1, 0, none⟩ (.bool true) = Wz at *
    have c3 : Wz.cell? ⟨w.heap.size + 1 + 1, 0, none⟩ = some (.bool true) := by rw [k3.cell]; rfl
    refine bodyPost_ret (v := .bool true) ?_ rfl ⟨rfl, hlw⟩
    simp only [results, hres]
    go_simp
end Go.Proofs.Ytbjmmfoklnhiiaa
