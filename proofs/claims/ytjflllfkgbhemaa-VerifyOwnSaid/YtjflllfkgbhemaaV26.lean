/- The walk of jumps at IQuit. Conditions: the bounds that are named. -/
import Derived.Test.YtjflllfkgbhemaaV24
namespace Go.Proofs.Ytjflllfkgbhemaa
open Go.RowKit
set_option linter.unusedVariables false in
set_option linter.unusedSimpArgs false in
set_option maxRecDepth 100000 in
set_option maxHeartbeats 4000000 in
theorem jumps_26 (w : World) (vb rb : Nat) (p : PV) (P : Prg) (ats : List St) (h : VMem w vb rb p P ats) (hn : P.cd.length ≤ 262144) (at_ : Nat) (hat : at_ < P.cd.length) (a b c d : Int) (v : Value) (s : St) (hs : StM w v s) (hl : s.ls.length ≤ 4194304) (hin : innerV s.ls = -1 ∨ pIn P (innerV s.ls)) (ha : pIn P a) (hj : jbad P at_ ⟨26, a, b, c, d⟩ = false) :
    Calls Try.prog 48 #[.pointer (some ⟨vb, 0, none⟩), .int .i64 (at_ : Int), .agg #[.int .i64 26, .int .i64 a, .int .i64 b, .int .i64 c, .int .i64 d], v] w fun en w' => en = .returned (.bool (decide (0 ≤ innerV s.ls) && a == (insAt P (innerV s.ls)).a)) ∧ Below w.heap.size w w' := by
  obtain ⟨na, g, rfl, hna, hg, hgl, q0, q1, _⟩ := code_at h.m ha
  obtain ⟨oa, ca, rfl, hm⟩ := hs
  obtain ⟨there, ty, ls, hand⟩ := s
  simp only [St.cells] at *
  have hb2 : Below w.heap.size w ((w.alloc (.cells #[.int .i64 26, .int .i64 (na : Int), .int .i64 b, .int .i64 c, .int .i64 d] 46)).alloc (.cells #[.bool there, .string ty, .int .i64 (lv ls 0), .int .i64 (lv ls 1), .int .i64 (lv ls 2), .int .i64 (lv ls 3), .int .i64 (lv ls 4), .int .i64 (lv ls 5), .int .i64 (lv ls 6), .int .i64 (lv ls 7), .int .i64 (ls.length : Int), .int .i64 hand, .slice oa (ls.length - 8) ca] 74)) := ((Below.refl _ w).alloc (Nat.le_refl _) _).alloc (by simp) _
  have kV := h.v.below hb2 h.v.lt
  have v5 : ((w.alloc (.cells #[.int .i64 26, .int .i64 (na : Int), .int .i64 b, .int .i64 c, .int .i64 d] 46)).alloc (.cells #[.bool there, .string ty, .int .i64 (lv ls 0), .int .i64 (lv ls 1), .int .i64 (lv ls 2), .int .i64 (lv ls 3), .int .i64 (lv ls 4), .int .i64 (lv ls 5), .int .i64 (lv ls 6), .int .i64 (lv ls 7), .int .i64 (ls.length : Int), .int .i64 hand, .slice oa (ls.length - 8) ca] 74)).cell? ⟨vb, 5, none⟩ = some (.slice p.ca P.cd.length p.cc) := by rw [kV.cell, ← h.m.cl]; rfl
  rw [hg] at v5
  have c0 : ((w.alloc (.cells #[.int .i64 26, .int .i64 (na : Int), .int .i64 b, .int .i64 c, .int .i64 d] 46)).alloc (.cells #[.bool there, .string ty, .int .i64 (lv ls 0), .int .i64 (lv ls 1), .int .i64 (lv ls 2), .int .i64 (lv ls 3), .int .i64 (lv ls 4), .int .i64 (lv ls 5), .int .i64 (lv ls 6), .int .i64 (lv ls 7), .int .i64 (ls.length : Int), .int .i64 hand, .slice oa (ls.length - 8) ca] 74)).cell? ⟨g, na * 5, none⟩ = some (.int .i64 (insAt P (na : Int)).op) := (hb2.cell (by exact hgl)).trans q0
  have HB := hide hb2
  unfold jbad at hj
  simp only [Bool.or_eq_false_iff, decide_eq_false_iff_not, beq_eq_false_iff_ne] at hj
  obtain ⟨j1, j2⟩ := hj
  generalize (insAt P (na : Int)).op = o1 at *
  have j3 : (o1 == 25) = false := by simpa using j2
  have hSt : StM ((w.alloc (.cells #[.int .i64 26, .int .i64 (na : Int), .int .i64 b, .int .i64 c, .int .i64 d] 46)).alloc (.cells #[.bool there, .string ty, .int .i64 (lv ls 0), .int .i64 (lv ls 1), .int .i64 (lv ls 2), .int .i64 (lv ls 3), .int .i64 (lv ls 4), .int .i64 (lv ls 5), .int .i64 (lv ls 6), .int .i64 (lv ls 7), .int .i64 (ls.length : Int), .int .i64 hand, .slice oa (ls.length - 8) ca] 74)) (.agg #[.bool there, .string ty, .int .i64 (lv ls 0), .int .i64 (lv ls 1), .int .i64 (lv ls 2), .int .i64 (lv ls 3), .int .i64 (lv ls 4), .int .i64 (lv ls 5), .int .i64 (lv ls 6), .int .i64 (lv ls 7), .int .i64 (ls.length : Int), .int .i64 hand, .slice oa (ls.length - 8) ca]) ⟨there, ty, ls, hand⟩ := ⟨oa, ca, rfl, hm.below hb2⟩
  have hI : ∀ W, Below ((w.alloc (.cells #[.int .i64 26, .int .i64 (na : Int), .int .i64 b, .int .i64 c, .int .i64 d] 46)).alloc (.cells #[.bool there, .string ty, .int .i64 (lv ls 0), .int .i64 (lv ls 1), .int .i64 (lv ls 2), .int .i64 (lv ls 3), .int .i64 (lv ls 4), .int .i64 (lv ls 5), .int .i64 (lv ls 6), .int .i64 (lv ls 7), .int .i64 (ls.length : Int), .int .i64 hand, .slice oa (ls.length - 8) ca] 74)).heap.size ((w.alloc (.cells #[.int .i64 26, .int .i64 (na : Int), .int .i64 b, .int .i64 c, .int .i64 d] 46)).alloc (.cells #[.bool there, .string ty, .int .i64 (lv ls 0), .int .i64 (lv ls 1), .int .i64 (lv ls 2), .int .i64 (lv ls 3), .int .i64 (lv ls 4), .int .i64 (lv ls 5), .int .i64 (lv ls 6), .int .i64 (lv ls 7), .int .i64 (ls.length : Int), .int .i64 hand, .slice oa (ls.length - 8) ca] 74)) W → Calls Try.prog 70 #[.agg #[.bool there, .string ty, .int .i64 (lv ls 0), .int .i64 (lv ls 1), .int .i64 (lv ls 2), .int .i64 (lv ls 3), .int .i64 (lv ls 4), .int .i64 (lv ls 5), .int .i64 (lv ls 6), .int .i64 (lv ls 7), .int .i64 (ls.length : Int), .int .i64 hand, .slice oa (ls.length - 8) ca]] W fun en w' => en = .returned (.int .i64 (innerV ls)) ∧ Below W.heap.size W w' := fun W hW => inner_i W _ ⟨there, ty, ls, hand⟩ (hSt.below hW).toV hl
  have kX : Blk ((w.alloc (.cells #[.int .i64 26, .int .i64 (na : Int), .int .i64 b, .int .i64 c, .int .i64 d] 46)).alloc (.cells #[.bool there, .string ty, .int .i64 (lv ls 0), .int .i64 (lv ls 1), .int .i64 (lv ls 2), .int .i64 (lv ls 3), .int .i64 (lv ls 4), .int .i64 (lv ls 5), .int .i64 (lv ls 6), .int .i64 (lv ls 7), .int .i64 (ls.length : Int), .int .i64 hand, .slice oa (ls.length - 8) ca] 74)) w.heap.size 46 #[.int .i64 26, .int .i64 (na : Int), .int .i64 b, .int .i64 c, .int .i64 d] := (Blk.new w 46 _).alloc _
  have kS : Blk ((w.alloc (.cells #[.int .i64 26, .int .i64 (na : Int), .int .i64 b, .int .i64 c, .int .i64 d] 46)).alloc (.cells #[.bool there, .string ty, .int .i64 (lv ls 0), .int .i64 (lv ls 1), .int .i64 (lv ls 2), .int .i64 (lv ls 3), .int .i64 (lv ls 4), .int .i64 (lv ls 5), .int .i64 (lv ls 6), .int .i64 (lv ls 7), .int .i64 (ls.length : Int), .int .i64 hand, .slice oa (ls.length - 8) ca] 74)) (w.heap.size + 1) 74 #[.bool there, .string ty, .int .i64 (lv ls 0), .int .i64 (lv ls 1), .int .i64 (lv ls 2), .int .i64 (lv ls 3), .int .i64 (lv ls 4), .int .i64 (lv ls 5), .int .i64 (lv ls 6), .int .i64 (lv ls 7), .int .i64 (ls.length : Int), .int .i64 hand, .slice oa (ls.length - 8) ca] := by
    have := Blk.new (w.alloc (.cells #[.int .i64 26, .int .i64 (na : Int), .int .i64 b, .int .i64 c, .int .i64 d] 46)) 74 #[.bool there, .string ty, .int .i64 (lv ls 0), .int .i64 (lv ls 1), .int .i64 (lv ls 2), .int .i64 (lv ls 3), .int .i64 (lv ls 4), .int .i64 (lv ls 5), .int .i64 (lv ls 6), .int .i64 (lv ls 7), .int .i64 (ls.length : Int), .int .i64 hand, .slice oa (ls.length - 8) ca]
    simpa using this
  have KX := hide kX
  have KS := hide kS
  generalize innerV ls = I at *
  have HI := hide hI
  rcases hin with h1 | hin
  · subst h1
    have hR : (decide (0 ≤ (-1 : Int)) && (na : Int) == (insAt P (-1)).a) = false := by simp
    rw [hR]
    clear h ha hm hb2 kV q0 q1 hg hgl hR hI kX kS
    go_enter Try.func48, Try.ntmps48
    go_wp2_with fail
    first | go_region_with (go_at_call 70
                            refine (HI.out _ (by first | exact HQ.out | exact (Below.refl _ _).drew)).mono ?_
                            rintro en w3 ⟨rfl, hb3⟩
                            have hq : Below ((w.alloc (.cells #[.int .i64 26, .int .i64 (na : Int), .int .i64 b, .int .i64 c, .int .i64 d] 46)).alloc (.cells #[.bool there, .string ty, .int .i64 (lv ls 0), .int .i64 (lv ls 1), .int .i64 (lv ls 2), .int .i64 (lv ls 3), .int .i64 (lv ls 4), .int .i64 (lv ls 5), .int .i64 (lv ls 6), .int .i64 (lv ls 7), .int .i64 (ls.length : Int), .int .i64 hand, .slice oa (ls.length - 8) ca] 74)).heap.size ((w.alloc (.cells #[.int .i64 26, .int .i64 (na : Int), .int .i64 b, .int .i64 c, .int .i64 d] 46)).alloc (.cells #[.bool there, .string ty, .int .i64 (lv ls 0), .int .i64 (lv ls 1), .int .i64 (lv ls 2), .int .i64 (lv ls 3), .int .i64 (lv ls 4), .int .i64 (lv ls 5), .int .i64 (lv ls 6), .int .i64 (lv ls 7), .int .i64 (ls.length : Int), .int .i64 hand, .slice oa (ls.length - 8) ca] 74)) w3 := by first | exact HQ.out.trans (hb3.mono HQ.out.size) | exact ((Below.refl _ _).drew).trans (hb3.mono (Nat.le_refl _))
                            have x1 : w3.cell? ⟨w.heap.size, 1, none⟩ = some (.int .i64 (na : Int)) := by rw [(KX.out.below hq KX.out.lt).cell]; rfl
                            have z0 : w3.cell? ⟨w.heap.size + 1, 0, none⟩ = some (.bool there) := by rw [(KS.out.below hq KS.out.lt).cell]; rfl
                            have z1 : w3.cell? ⟨w.heap.size + 1, 1, none⟩ = some (.string ty) := by rw [(KS.out.below hq KS.out.lt).cell]; rfl
                            have z2 : w3.cell? ⟨w.heap.size + 1, 2, none⟩ = some (.int .i64 (lv ls 0)) := by rw [(KS.out.below hq KS.out.lt).cell]; rfl
                            have z3 : w3.cell? ⟨w.heap.size + 1, 3, none⟩ = some (.int .i64 (lv ls 1)) := by rw [(KS.out.below hq KS.out.lt).cell]; rfl
                            have z4 : w3.cell? ⟨w.heap.size + 1, 4, none⟩ = some (.int .i64 (lv ls 2)) := by rw [(KS.out.below hq KS.out.lt).cell]; rfl
                            have z5 : w3.cell? ⟨w.heap.size + 1, 5, none⟩ = some (.int .i64 (lv ls 3)) := by rw [(KS.out.below hq KS.out.lt).cell]; rfl
                            have z6 : w3.cell? ⟨w.heap.size + 1, 6, none⟩ = some (.int .i64 (lv ls 4)) := by rw [(KS.out.below hq KS.out.lt).cell]; rfl
                            have z7 : w3.cell? ⟨w.heap.size + 1, 7, none⟩ = some (.int .i64 (lv ls 5)) := by rw [(KS.out.below hq KS.out.lt).cell]; rfl
                            have z8 : w3.cell? ⟨w.heap.size + 1, 8, none⟩ = some (.int .i64 (lv ls 6)) := by rw [(KS.out.below hq KS.out.lt).cell]; rfl
                            have z9 : w3.cell? ⟨w.heap.size + 1, 9, none⟩ = some (.int .i64 (lv ls 7)) := by rw [(KS.out.below hq KS.out.lt).cell]; rfl
                            have z10 : w3.cell? ⟨w.heap.size + 1, 10, none⟩ = some (.int .i64 (ls.length : Int)) := by rw [(KS.out.below hq KS.out.lt).cell]; rfl
                            have z11 : w3.cell? ⟨w.heap.size + 1, 11, none⟩ = some (.int .i64 hand) := by rw [(KS.out.below hq KS.out.lt).cell]; rfl
                            have z12 : w3.cell? ⟨w.heap.size + 1, 12, none⟩ = some (.slice oa (ls.length - 8) ca) := by rw [(KS.out.below hq KS.out.lt).cell]; rfl
                            have HQ := hide hq
                            clear hq hb3)
          | fail
    all_goals
      go_wp2
      go_ret
      exact ⟨by first | rfl | simp, HB.out.trans (HQ.out.mono HB.out.size)⟩
  · have h1 : 0 ≤ I := hin.1
    obtain ⟨ni, g2, rfl, hni, hg2, hgl2, p0, p1, _⟩ := code_at h.m hin
    rw [hg] at hg2
    obtain rfl : g = g2 := by injection hg2 with e; injection e
    have c1 : ((w.alloc (.cells #[.int .i64 26, .int .i64 (na : Int), .int .i64 b, .int .i64 c, .int .i64 d] 46)).alloc (.cells #[.bool there, .string ty, .int .i64 (lv ls 0), .int .i64 (lv ls 1), .int .i64 (lv ls 2), .int .i64 (lv ls 3), .int .i64 (lv ls 4), .int .i64 (lv ls 5), .int .i64 (lv ls 6), .int .i64 (lv ls 7), .int .i64 (ls.length : Int), .int .i64 hand, .slice oa (ls.length - 8) ca] 74)).cell? ⟨g, ni * 5 + 1, none⟩ = some (.int .i64 (insAt P (ni : Int)).a) := (hb2.cell (by exact hgl)).trans p1
    generalize (insAt P (ni : Int)).a = a2 at *
    have hR : (decide (0 ≤ (ni : Int)) && (na : Int) == a2) = ((na : Int) == a2) := by simp
    rw [hR]
    have HC1 := hide c1
    have HG : Hid (g < ((w.alloc (.cells #[.int .i64 26, .int .i64 (na : Int), .int .i64 b, .int .i64 c, .int .i64 d] 46)).alloc (.cells #[.bool there, .string ty, .int .i64 (lv ls 0), .int .i64 (lv ls 1), .int .i64 (lv ls 2), .int .i64 (lv ls 3), .int .i64 (lv ls 4), .int .i64 (lv ls 5), .int .i64 (lv ls 6), .int .i64 (lv ls 7), .int .i64 (ls.length : Int), .int .i64 hand, .slice oa (ls.length - 8) ca] 74)).heap.size) := hide (by have := hb2.size; omega)
    clear h ha hm hb2 kV q0 q1 hg hg2 hgl hgl2 p0 p1 c1 hR h1 hin hI kX kS
    go_enter Try.func48, Try.ntmps48
    go_wp2_with fail
    go_region_with (go_at_call 70
                    refine (HI.out _ (by first | exact HQ.out | exact (Below.refl _ _).drew)).mono ?_
                    rintro en w3 ⟨rfl, hb3⟩
                    have hq : Below ((w.alloc (.cells #[.int .i64 26, .int .i64 (na : Int), .int .i64 b, .int .i64 c, .int .i64 d] 46)).alloc (.cells #[.bool there, .string ty, .int .i64 (lv ls 0), .int .i64 (lv ls 1), .int .i64 (lv ls 2), .int .i64 (lv ls 3), .int .i64 (lv ls 4), .int .i64 (lv ls 5), .int .i64 (lv ls 6), .int .i64 (lv ls 7), .int .i64 (ls.length : Int), .int .i64 hand, .slice oa (ls.length - 8) ca] 74)).heap.size ((w.alloc (.cells #[.int .i64 26, .int .i64 (na : Int), .int .i64 b, .int .i64 c, .int .i64 d] 46)).alloc (.cells #[.bool there, .string ty, .int .i64 (lv ls 0), .int .i64 (lv ls 1), .int .i64 (lv ls 2), .int .i64 (lv ls 3), .int .i64 (lv ls 4), .int .i64 (lv ls 5), .int .i64 (lv ls 6), .int .i64 (lv ls 7), .int .i64 (ls.length : Int), .int .i64 hand, .slice oa (ls.length - 8) ca] 74)) w3 := by first | exact HQ.out.trans (hb3.mono HQ.out.size) | exact ((Below.refl _ _).drew).trans (hb3.mono (Nat.le_refl _))
                    have x1 : w3.cell? ⟨w.heap.size, 1, none⟩ = some (.int .i64 (na : Int)) := by rw [(KX.out.below hq KX.out.lt).cell]; rfl
                    have c1 : w3.cell? ⟨g, ni * 5 + 1, none⟩ = some (.int .i64 a2) := (hq.cell (by exact HG.out)).trans HC1.out
                    have z0 : w3.cell? ⟨w.heap.size + 1, 0, none⟩ = some (.bool there) := by rw [(KS.out.below hq KS.out.lt).cell]; rfl
                    have z1 : w3.cell? ⟨w.heap.size + 1, 1, none⟩ = some (.string ty) := by rw [(KS.out.below hq KS.out.lt).cell]; rfl
                    have z2 : w3.cell? ⟨w.heap.size + 1, 2, none⟩ = some (.int .i64 (lv ls 0)) := by rw [(KS.out.below hq KS.out.lt).cell]; rfl
                    have z3 : w3.cell? ⟨w.heap.size + 1, 3, none⟩ = some (.int .i64 (lv ls 1)) := by rw [(KS.out.below hq KS.out.lt).cell]; rfl
                    have z4 : w3.cell? ⟨w.heap.size + 1, 4, none⟩ = some (.int .i64 (lv ls 2)) := by rw [(KS.out.below hq KS.out.lt).cell]; rfl
                    have z5 : w3.cell? ⟨w.heap.size + 1, 5, none⟩ = some (.int .i64 (lv ls 3)) := by rw [(KS.out.below hq KS.out.lt).cell]; rfl
                    have z6 : w3.cell? ⟨w.heap.size + 1, 6, none⟩ = some (.int .i64 (lv ls 4)) := by rw [(KS.out.below hq KS.out.lt).cell]; rfl
                    have z7 : w3.cell? ⟨w.heap.size + 1, 7, none⟩ = some (.int .i64 (lv ls 5)) := by rw [(KS.out.below hq KS.out.lt).cell]; rfl
                    have z8 : w3.cell? ⟨w.heap.size + 1, 8, none⟩ = some (.int .i64 (lv ls 6)) := by rw [(KS.out.below hq KS.out.lt).cell]; rfl
                    have z9 : w3.cell? ⟨w.heap.size + 1, 9, none⟩ = some (.int .i64 (lv ls 7)) := by rw [(KS.out.below hq KS.out.lt).cell]; rfl
                    have z10 : w3.cell? ⟨w.heap.size + 1, 10, none⟩ = some (.int .i64 (ls.length : Int)) := by rw [(KS.out.below hq KS.out.lt).cell]; rfl
                    have z11 : w3.cell? ⟨w.heap.size + 1, 11, none⟩ = some (.int .i64 hand) := by rw [(KS.out.below hq KS.out.lt).cell]; rfl
                    have z12 : w3.cell? ⟨w.heap.size + 1, 12, none⟩ = some (.slice oa (ls.length - 8) ca) := by rw [(KS.out.below hq KS.out.lt).cell]; rfl
                    have HQ := hide hq
                    clear hq hb3)
    all_goals
      go_wp2
      go_ret
      exact ⟨by first | rfl | simp, HB.out.trans (HQ.out.mono HB.out.size)⟩
end Go.Proofs.Ytjflllfkgbhemaa
