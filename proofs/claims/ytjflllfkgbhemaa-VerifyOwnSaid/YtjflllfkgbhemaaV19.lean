/- The walk of ways at ITurn and IQuit. Conditions: the bounds that are named. -/
import Derived.Test.YtjflllfkgbhemaaV18
import Derived.Deep.RegionWith
namespace Go.Proofs.Ytjflllfkgbhemaa
open Go.RowKit
set_option linter.unusedVariables false in
set_option maxRecDepth 100000 in
set_option maxHeartbeats 4000000 in
theorem ways_turn (w : World) (at_ : Nat) (a b c d : Int) (v : Value) (s : St) (h : StM w v s) (hat : at_ ≤ 4194304) (hl : s.ls.length ≤ 4194304) :
    Calls Try.prog 50 #[.int .i64 (at_ : Int), .agg #[.int .i64 25, .int .i64 a, .int .i64 b, .int .i64 c, .int .i64 d], v] w fun en w' => ∃ v', en = .returned v' ∧ Wy w' v' (waysV at_ ⟨25, a, b, c, d⟩ s) ∧ Below w.heap.size w w' := by
  have hW := fun W (hb : Below w.heap.size w W) => with_i W v s at_ (h.below hb) hl
  obtain ⟨oa, ca, rfl, hm⟩ := h
  have HM := hide hm
  have hV : waysV at_ ⟨25, a, b, c, d⟩ s = [((at_ : Int) + 1, { s with ls := s.ls ++ [(at_ : Int)] }), (a, s)] := by simp [waysV]
  have HV := hide hV
  have hB : Below w.heap.size w ((w.alloc (.cells #[.int .i64 25, .int .i64 a, .int .i64 b, .int .i64 c, .int .i64 d] 46)).alloc (.cells (s.cells (.slice oa (s.ls.length - 8) ca)) 74)) := ((Below.refl _ w).alloc (Nat.le_refl _) _).alloc (by simp) _
  have HW := hide (hW _ hB.drew)
  have kX := (Blk.new w 46 #[.int .i64 25, .int .i64 a, .int .i64 b, .int .i64 c, .int .i64 d]).alloc (.cells (s.cells (.slice oa (s.ls.length - 8) ca)) 74)
  have kS : Blk ((w.alloc (.cells #[.int .i64 25, .int .i64 a, .int .i64 b, .int .i64 c, .int .i64 d] 46)).alloc (.cells (s.cells (.slice oa (s.ls.length - 8) ca)) 74)) (w.heap.size + 1) 74 (s.cells (.slice oa (s.ls.length - 8) ca)) := by
    have := Blk.new (w.alloc (.cells #[.int .i64 25, .int .i64 a, .int .i64 b, .int .i64 c, .int .i64 d] 46)) 74 (s.cells (.slice oa (s.ls.length - 8) ca))
    simpa using this
  have KX := hide kX
  have KS := hide kS
  have HB := hide hB
  clear hm hV hW hB kX kS
  obtain ⟨there, ty, ls, hand⟩ := s
  simp only [St.cells] at *
  go_enter Try.func50, Try.ntmps50
  go_wp2
  go_region_with (go_at_call 72
                  refine HW.out.mono ?_
                  rintro en w2 ⟨v2, rfl, ⟨ob, cb, rfl, hn⟩, hb2⟩
                  have kS2 := KS.out.drew.below hb2 KS.out.lt
                  have kX2 := KX.out.drew.below hb2 KX.out.lt
                  have x1 : w2.cell? ⟨w.heap.size, 1, none⟩ = some (.int .i64 a) := by rw [kX2.cell]; rfl
                  have z0 : w2.cell? ⟨w.heap.size + 1, 0, none⟩ = some (.bool there) := by rw [kS2.cell]; rfl
                  have z1 : w2.cell? ⟨w.heap.size + 1, 1, none⟩ = some (.string ty) := by rw [kS2.cell]; rfl
                  have z2 : w2.cell? ⟨w.heap.size + 1, 2, none⟩ = some (.int .i64 (lv ls 0)) := by rw [kS2.cell]; rfl
                  have z3 : w2.cell? ⟨w.heap.size + 1, 3, none⟩ = some (.int .i64 (lv ls 1)) := by rw [kS2.cell]; rfl
                  have z4 : w2.cell? ⟨w.heap.size + 1, 4, none⟩ = some (.int .i64 (lv ls 2)) := by rw [kS2.cell]; rfl
                  have z5 : w2.cell? ⟨w.heap.size + 1, 5, none⟩ = some (.int .i64 (lv ls 3)) := by rw [kS2.cell]; rfl
                  have z6 : w2.cell? ⟨w.heap.size + 1, 6, none⟩ = some (.int .i64 (lv ls 4)) := by rw [kS2.cell]; rfl
                  have z7 : w2.cell? ⟨w.heap.size + 1, 7, none⟩ = some (.int .i64 (lv ls 5)) := by rw [kS2.cell]; rfl
                  have z8 : w2.cell? ⟨w.heap.size + 1, 8, none⟩ = some (.int .i64 (lv ls 6)) := by rw [kS2.cell]; rfl
                  have z9 : w2.cell? ⟨w.heap.size + 1, 9, none⟩ = some (.int .i64 (lv ls 7)) := by rw [kS2.cell]; rfl
                  have z10 : w2.cell? ⟨w.heap.size + 1, 10, none⟩ = some (.int .i64 (ls.length : Int)) := by rw [kS2.cell]; rfl
                  have z11 : w2.cell? ⟨w.heap.size + 1, 11, none⟩ = some (.int .i64 hand) := by rw [kS2.cell]; rfl
                  have z12 : w2.cell? ⟨w.heap.size + 1, 12, none⟩ = some (.slice oa (ls.length - 8) ca) := by rw [kS2.cell]; rfl
                  have HN := hide hn
                  have HB2 := hide hb2
                  clear hn hb2 kS2 kX2
                  simp only [St.cells])
  all_goals
    go_wp2
    go_ret
    have q1 : Below w.heap.size w w2 := HB.out.drew.trans (HB2.out.mono HB.out.size)
    have q2 : ∀ o : Obj, Below w2.heap.size w2 (w2.alloc o) := fun o => (Below.refl _ w2).alloc (Nat.le_refl _) o
    refine ⟨_, rfl, ?_, q1.trans ((q2 _).mono q1.size)⟩
    rw [HV.out]
    exact wy_two (Blk.new w2 108 _) (HN.out.below (q2 _)) ((HM.out.below q1).below (q2 _)) (by simp [St.cells]; exact IntWalk.i64_in _ (by omega))
end Go.Proofs.Ytjflllfkgbhemaa
