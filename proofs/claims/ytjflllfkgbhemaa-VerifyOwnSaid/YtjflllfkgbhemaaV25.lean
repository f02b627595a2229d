/- The walk of jumps at ILoop, ITurn, IQuit. Conditions: the bounds that are named. -/
import Derived.Test.YtjflllfkgbhemaaV24
namespace Go.Proofs.Ytjflllfkgbhemaa
open Go.RowKit
set_option linter.unusedVariables false in
set_option linter.unusedSimpArgs false in
set_option maxRecDepth 100000 in
set_option maxHeartbeats 4000000 in
theorem jumps_24 (w : World) (vb rb : Nat) (p : PV) (P : Prg) (ats : List St) (h : VMem w vb rb p P ats) (hn : P.cd.length ≤ 262144) (at_ : Nat) (hat : at_ < P.cd.length) (a b c d : Int) (v : Value) (s : St) (hs : StM w v s) :
    Calls Try.prog 48 #[.pointer (some ⟨vb, 0, none⟩), .int .i64 (at_ : Int), .agg #[.int .i64 24, .int .i64 a, .int .i64 b, .int .i64 c, .int .i64 d], v] w fun en w' => en = .returned (.bool (decide (at_ + 1 < P.cd.length) && (insAt P ((at_ : Int) + 1)).op == 25)) ∧ Below w.heap.size w w' := by
  obtain ⟨oa, ca, rfl, hm⟩ := hs
  obtain ⟨there, ty, ls, hand⟩ := s
  simp only [St.cells] at *
  have hb2 : Below w.heap.size w ((w.alloc (.cells #[.int .i64 24, .int .i64 a, .int .i64 b, .int .i64 c, .int .i64 d] 46)).alloc (.cells #[.bool there, .string ty, .int .i64 (lv ls 0), .int .i64 (lv ls 1), .int .i64 (lv ls 2), .int .i64 (lv ls 3), .int .i64 (lv ls 4), .int .i64 (lv ls 5), .int .i64 (lv ls 6), .int .i64 (lv ls 7), .int .i64 (ls.length : Int), .int .i64 hand, .slice oa (ls.length - 8) ca] 74)) := ((Below.refl _ w).alloc (Nat.le_refl _) _).alloc (by simp) _
  have kV := h.v.below hb2 h.v.lt
  have v5 : ((w.alloc (.cells #[.int .i64 24, .int .i64 a, .int .i64 b, .int .i64 c, .int .i64 d] 46)).alloc (.cells #[.bool there, .string ty, .int .i64 (lv ls 0), .int .i64 (lv ls 1), .int .i64 (lv ls 2), .int .i64 (lv ls 3), .int .i64 (lv ls 4), .int .i64 (lv ls 5), .int .i64 (lv ls 6), .int .i64 (lv ls 7), .int .i64 (ls.length : Int), .int .i64 hand, .slice oa (ls.length - 8) ca] 74)).cell? ⟨vb, 5, none⟩ = some (.slice p.ca P.cd.length p.cc) := by rw [kV.cell, ← h.m.cl]; rfl
  have HB := hide hb2
  have u1 := IntWalk.i64_in ((at_ : Int) + 1) (by omega)
  by_cases h1 : at_ + 1 < P.cd.length
  · obtain ⟨na, g, ena, hna, hg, hgl, q0, q1, _⟩ := code_at h.m (a := (at_ : Int) + 1) ⟨by omega, by omega⟩
    obtain rfl : na = at_ + 1 := by omega
    rw [hg] at v5
    have c0 : ((w.alloc (.cells #[.int .i64 24, .int .i64 a, .int .i64 b, .int .i64 c, .int .i64 d] 46)).alloc (.cells #[.bool there, .string ty, .int .i64 (lv ls 0), .int .i64 (lv ls 1), .int .i64 (lv ls 2), .int .i64 (lv ls 3), .int .i64 (lv ls 4), .int .i64 (lv ls 5), .int .i64 (lv ls 6), .int .i64 (lv ls 7), .int .i64 (ls.length : Int), .int .i64 hand, .slice oa (ls.length - 8) ca] 74)).cell? ⟨g, (at_ + 1) * 5, none⟩ = some (.int .i64 (insAt P ((at_ : Int) + 1)).op) := (hb2.cell (by exact hgl)).trans q0
    generalize (insAt P ((at_ : Int) + 1)).op = o1 at *
    have hR : (decide (at_ + 1 < P.cd.length) && o1 == 25) = (o1 == 25) := by simp [h1]
    have HR := hide hR
    clear h hm hb2 kV q0 q1 hg hgl ena hR
    go_enter Try.func48, Try.ntmps48
    go_wp2
    all_goals first | (exfalso; omega) | (go_ret; exact ⟨by first | rfl | (rw [HR.out]; rfl) | (rw [HR.out]), HB.out⟩)
  · have hR : (decide (at_ + 1 < P.cd.length) && (insAt P ((at_ : Int) + 1)).op == 25) = false := by simp [h1]
    have HR := hide hR
    clear h hm hb2 kV hR
    go_enter Try.func48, Try.ntmps48
    go_wp2
    all_goals first | (exfalso; omega) | (go_ret; exact ⟨by first | rfl | (rw [HR.out]; rfl) | (rw [HR.out]), HB.out⟩)
set_option linter.unusedVariables false in
set_option linter.unusedSimpArgs false in
set_option maxRecDepth 100000 in
set_option maxHeartbeats 4000000 in
theorem jumps_25 (w : World) (vb rb : Nat) (p : PV) (P : Prg) (ats : List St) (h : VMem w vb rb p P ats) (hn : P.cd.length ≤ 262144) (at_ : Nat) (hat : at_ < P.cd.length) (a b c d : Int) (v : Value) (s : St) (hs : StM w v s) (ho : P.os.length ≤ 4194304) (ha : pIn P a) (hj : jbad P at_ ⟨25, a, b, c, d⟩ = false) :
    Calls Try.prog 48 #[.pointer (some ⟨vb, 0, none⟩), .int .i64 (at_ : Int), .agg #[.int .i64 25, .int .i64 a, .int .i64 b, .int .i64 c, .int .i64 d], v] w fun en w' => en = .returned (.bool (decide (0 < at_) && (insAt P ((at_ : Int) - 1)).op == 24 && P.miss != at_ && !decide ((at_ : Int) ∈ P.os))) ∧ Below w.heap.size w w' := by
  obtain ⟨na, g, rfl, hna, hg, hgl, q0, q1, _⟩ := code_at h.m ha
  obtain ⟨oa, ca, rfl, hm⟩ := hs
  obtain ⟨there, ty, ls, hand⟩ := s
  simp only [St.cells] at *
  have hb2 : Below w.heap.size w ((w.alloc (.cells #[.int .i64 25, .int .i64 (na : Int), .int .i64 b, .int .i64 c, .int .i64 d] 46)).alloc (.cells #[.bool there, .string ty, .int .i64 (lv ls 0), .int .i64 (lv ls 1), .int .i64 (lv ls 2), .int .i64 (lv ls 3), .int .i64 (lv ls 4), .int .i64 (lv ls 5), .int .i64 (lv ls 6), .int .i64 (lv ls 7), .int .i64 (ls.length : Int), .int .i64 hand, .slice oa (ls.length - 8) ca] 74)) := ((Below.refl _ w).alloc (Nat.le_refl _) _).alloc (by simp) _
  have kV := h.v.below hb2 h.v.lt
  have v5 : ((w.alloc (.cells #[.int .i64 25, .int .i64 (na : Int), .int .i64 b, .int .i64 c, .int .i64 d] 46)).alloc (.cells #[.bool there, .string ty, .int .i64 (lv ls 0), .int .i64 (lv ls 1), .int .i64 (lv ls 2), .int .i64 (lv ls 3), .int .i64 (lv ls 4), .int .i64 (lv ls 5), .int .i64 (lv ls 6), .int .i64 (lv ls 7), .int .i64 (ls.length : Int), .int .i64 hand, .slice oa (ls.length - 8) ca] 74)).cell? ⟨vb, 5, none⟩ = some (.slice p.ca P.cd.length p.cc) := by rw [kV.cell, ← h.m.cl]; rfl
  rw [hg] at v5
  have c0 : ((w.alloc (.cells #[.int .i64 25, .int .i64 (na : Int), .int .i64 b, .int .i64 c, .int .i64 d] 46)).alloc (.cells #[.bool there, .string ty, .int .i64 (lv ls 0), .int .i64 (lv ls 1), .int .i64 (lv ls 2), .int .i64 (lv ls 3), .int .i64 (lv ls 4), .int .i64 (lv ls 5), .int .i64 (lv ls 6), .int .i64 (lv ls 7), .int .i64 (ls.length : Int), .int .i64 hand, .slice oa (ls.length - 8) ca] 74)).cell? ⟨g, na * 5, none⟩ = some (.int .i64 (insAt P (na : Int)).op) := (hb2.cell (by exact hgl)).trans q0
  have HB := hide hb2
  unfold jbad at hj
  simp only [Bool.or_eq_false_iff, decide_eq_false_iff_not, beq_eq_false_iff_ne] at hj
  obtain ⟨j1, j2⟩ := hj
  generalize (insAt P (na : Int)).op = o1 at *
  have j3 : (o1 == 25) = false := by simpa using j2
  have hct := contains_i _ (.slice p.oa P.os.length p.oc) P.os (at_ : Int) (h.m.below hb2).vw ho
  have v3 : ((w.alloc (.cells #[.int .i64 25, .int .i64 (na : Int), .int .i64 b, .int .i64 c, .int .i64 d] 46)).alloc (.cells #[.bool there, .string ty, .int .i64 (lv ls 0), .int .i64 (lv ls 1), .int .i64 (lv ls 2), .int .i64 (lv ls 3), .int .i64 (lv ls 4), .int .i64 (lv ls 5), .int .i64 (lv ls 6), .int .i64 (lv ls 7), .int .i64 (ls.length : Int), .int .i64 hand, .slice oa (ls.length - 8) ca] 74)).cell? ⟨vb, 3, none⟩ = some (.slice p.oa P.os.length p.oc) := by rw [kV.cell, ← h.m.ol]; rfl
  have v4 : ((w.alloc (.cells #[.int .i64 25, .int .i64 (na : Int), .int .i64 b, .int .i64 c, .int .i64 d] 46)).alloc (.cells #[.bool there, .string ty, .int .i64 (lv ls 0), .int .i64 (lv ls 1), .int .i64 (lv ls 2), .int .i64 (lv ls 3), .int .i64 (lv ls 4), .int .i64 (lv ls 5), .int .i64 (lv ls 6), .int .i64 (lv ls 7), .int .i64 (ls.length : Int), .int .i64 hand, .slice oa (ls.length - 8) ca] 74)).cell? ⟨vb, 4, none⟩ = some (.int .i64 P.miss) := by rw [kV.cell, ← h.m.miss]; rfl
  generalize hmi : P.miss = mi at *
  generalize hme : decide ((at_ : Int) ∈ P.os) = me at *
  have HC := hide hct
  clear hct
  have u1 := IntWalk.i64_in ((at_ : Int) - 1) (by omega)
  by_cases h1 : 0 < at_
  · obtain ⟨nb, g2, enb, hnb, hg2, hgl2, p0, p1, _⟩ := code_at h.m (a := (at_ : Int) - 1) ⟨by omega, by omega⟩
    obtain ⟨k, rfl⟩ : ∃ k, at_ = k + 1 := ⟨at_ - 1, by omega⟩
    obtain rfl : nb = k := by omega
    rw [hg] at hg2
    obtain rfl : g = g2 := by injection hg2 with e; injection e
    have c2 : ((w.alloc (.cells #[.int .i64 25, .int .i64 (na : Int), .int .i64 b, .int .i64 c, .int .i64 d] 46)).alloc (.cells #[.bool there, .string ty, .int .i64 (lv ls 0), .int .i64 (lv ls 1), .int .i64 (lv ls 2), .int .i64 (lv ls 3), .int .i64 (lv ls 4), .int .i64 (lv ls 5), .int .i64 (lv ls 6), .int .i64 (lv ls 7), .int .i64 (ls.length : Int), .int .i64 hand, .slice oa (ls.length - 8) ca] 74)).cell? ⟨g, nb * 5, none⟩ = some (.int .i64 (insAt P (((nb + 1 : Nat) : Int) - 1)).op) := (hb2.cell (by exact hgl)).trans p0
    generalize (insAt P (((nb + 1 : Nat) : Int) - 1)).op = o2 at *
    have u2 : (((nb + 1 : Nat) : Int) - 1) = (nb : Int) := by omega
    simp only [u2] at u1
    have hR : (decide (0 < nb + 1) && o2 == 24 && mi != ((nb + 1 : Nat) : Int) && !me) = (o2 == 24 && mi != ((nb : Int) + 1) && !me) := by simp
    rw [hR]
    clear h ha hm hb2 kV q0 q1 hg hg2 hgl hgl2 p0 p1 enb hR hme hmi
    by_cases o24 : o2 = 24
    · subst o24
      by_cases hmi2 : mi = (nb : Int) + 1
      · subst hmi2
        rw [show ((24 : Int) == 24 && ((nb : Int) + 1) != ((nb : Int) + 1) && !me) = false from by simp]
        go_enter Try.func48, Try.ntmps48
        go_wp2_with (go_at_call 69
                     refine HC.out.mono ?_
                     rintro en w' ⟨rfl, q, rfl⟩)
        all_goals first | (exfalso; omega) | (go_ret; exact ⟨by first | rfl | simp, by first | exact HB.out | exact below_drewN HB.out _⟩)
      · have mb : (mi != (nb : Int) + 1) = true := by simpa using hmi2
        rw [mb]
        cases me
        all_goals
          go_enter Try.func48, Try.ntmps48
          go_wp2_with (go_at_call 69
                       refine HC.out.mono ?_
                       rintro en w' ⟨rfl, q, rfl⟩)
          all_goals first | (exfalso; omega) | (go_ret; exact ⟨by first | rfl | simp, by first | exact HB.out | exact below_drewN HB.out _⟩)
    · have ob : (o2 == 24) = false := by simpa using o24
      rw [ob]
      go_enter Try.func48, Try.ntmps48
      go_wp2_with (go_at_call 69
                   refine HC.out.mono ?_
                   rintro en w' ⟨rfl, q, rfl⟩)
      all_goals first | (exfalso; omega) | (go_ret; exact ⟨by first | rfl | simp, by first | exact HB.out | exact below_drewN HB.out _⟩)
  · have hR : (decide (0 < at_) && (insAt P ((at_ : Int) - 1)).op == 24 && mi != at_ && !me) = false := by simp [h1]
    rw [hR]
    clear h ha hm hb2 kV q0 q1 hg hgl hR hme hmi
    go_enter Try.func48, Try.ntmps48
    go_wp2_with (go_at_call 69
                 refine HC.out.mono ?_
                 rintro en w' ⟨rfl, q, rfl⟩)
    all_goals first | (exfalso; omega) | (go_ret; exact ⟨by first | rfl | simp, by first | exact HB.out | exact below_drewN HB.out _⟩)
end Go.Proofs.Ytjflllfkgbhemaa
