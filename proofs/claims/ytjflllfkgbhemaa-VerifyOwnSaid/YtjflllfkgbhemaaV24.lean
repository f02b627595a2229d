/- The verifier in memory; the walk of jumps, but for IAgain. Conditions: the bounds that are named. -/
import Derived.Test.YtjflllfkgbhemaaV14
import Derived.Test.YtjflllfkgbhemaaV15
import Derived.Test.YtjflllfkgbhemaaV12
import Derived.BigQuiet
import Derived.Deep.RegionWith
namespace Go.Proofs.Ytjflllfkgbhemaa
open Go.RowKit

def pIn (P : Prg) (a : Int) : Prop := 0 ≤ a ∧ a.toNat < P.cd.length
def insAt (P : Prg) (a : Int) : Ins := (P.cd[a.toNat]?).getD ⟨0, 0, 0, 0, 0⟩
def atSt (ats : List St) (a : Int) : St := (ats[a.toNat]?).getD ⟨false, ⟨#[]⟩, [], 0⟩
def jbad (P : Prg) (at_ : Nat) (x : Ins) : Bool := decide (x.a ≤ at_) || (insAt P x.a).op == 25
def jumpsV (P : Prg) (at_ : Nat) (x : Ins) (s : St) (ats : List St) : Bool :=
  if x.op = 22 ∨ x.op = 23 then !jbad P at_ x
  else if x.op = 24 then decide (at_ + 1 < P.cd.length) && (insAt P ((at_ : Int) + 1)).op == 25
  else if x.op = 25 then !jbad P at_ x && (decide (0 < at_) && (insAt P ((at_ : Int) - 1)).op == 24 && P.miss != at_ && !decide ((at_ : Int) ∈ P.os))
  else if x.op = 26 then !jbad P at_ x && (decide (0 ≤ innerV s.ls) && x.a == (insAt P (innerV s.ls)).a)
  else if x.op = 27 then decide (0 ≤ innerV s.ls) && x.a == innerV s.ls && sameV (atSt ats (innerV s.ls)) { s with ls := s.ls.dropLast, hand := (atSt ats (innerV s.ls)).hand }
  else if x.op = 0 then s.ls.length == 0 else true
structure AtRow (w : World) (rb : Nat) (ats : List St) : Prop where
  blk : ∃ cs, Blk w rb 74 cs ∧ cs.size = ats.length * 13
  row : ∀ i s, ats[i]? = some s → ∃ oa ca, Mt w oa ca (s.ls.drop 8) ∧ ∀ j x, (s.cells (.slice oa (s.ls.length - 8) ca))[j]? = some x → w.cell? ⟨rb, i * 13 + j, none⟩ = some x
theorem AtRow.below {w w' : World} {rb : Nat} {ats : List St} (h : AtRow w rb ats) (hb : Below w.heap.size w w') : AtRow w' rb ats := by
  obtain ⟨⟨cs, hc, hs⟩, h⟩ := h
  refine ⟨⟨cs, hc.below hb hc.lt, hs⟩, fun i s hi => ?_⟩
  obtain ⟨oa, ca, hm, hx⟩ := h i s hi
  exact ⟨oa, ca, hm.below hb, fun j x hj => (hb.cell (by exact hc.lt)).trans (hx j x hj)⟩
structure VMem (w : World) (vb rb : Nat) (p : PV) (P : Prg) (ats : List St) : Prop where
  m : PMem w p P
  v : Blk w vb 71 (vCells p (.slice (some ⟨rb, 0, none⟩) ats.length ats.length))
  r : AtRow w rb ats
  len : ats.length = P.cd.length
theorem VMem.below {w w' : World} {vb rb : Nat} {p : PV} {P : Prg} {ats : List St} (h : VMem w vb rb p P ats) (hb : Below w.heap.size w w') : VMem w' vb rb p P ats :=
  ⟨h.m.below hb, h.v.below hb h.v.lt, h.r.below hb, h.len⟩
theorem code_at {w : World} {p : PV} {P : Prg} (h : PMem w p P) {a : Int} (ha : pIn P a) : ∃ n g : Nat, a = n ∧ n < P.cd.length ∧ p.ca = some ⟨g, 0, none⟩ ∧ g < w.heap.size ∧ w.cell? ⟨g, n * 5, none⟩ = some (.int .i64 (insAt P a).op) ∧
    w.cell? ⟨g, n * 5 + 1, none⟩ = some (.int .i64 (insAt P a).a) ∧ w.cell? ⟨g, n * 5 + 2, none⟩ = some (.int .i64 (insAt P a).b) ∧ w.cell? ⟨g, n * 5 + 3, none⟩ = some (.int .i64 (insAt P a).c) ∧ w.cell? ⟨g, n * 5 + 4, none⟩ = some (.int .i64 (insAt P a).d) := by
  obtain ⟨h0, h1⟩ := ha
  obtain ⟨n, rfl⟩ := Int.eq_ofNat_of_zero_le h0
  simp only [Int.toNat_natCast] at h1
  obtain ⟨y, hy⟩ : ∃ y, P.cd[n]? = some y := ⟨_, List.getElem?_eq_getElem h1⟩
  obtain ⟨⟨g, hg, hgl, q0⟩, ⟨_, hg1, _, q1⟩, ⟨_, hg2, _, q2⟩, ⟨_, hg3, _, q3⟩, ⟨_, hg4, _, q4⟩⟩ := h.c n y hy
  rw [hg] at hg1 hg2 hg3 hg4
  cases hg1
  cases hg2
  cases hg3
  cases hg4
  have e : insAt P ((n : Nat) : Int) = y := by simp [insAt, hy]
  rw [e]
  exact ⟨n, g, rfl, h1, hg, hgl, q0, q1, q2, q3, q4⟩
theorem PMem.vw {w : World} {p : PV} {P : Prg} (h : PMem w p P) : Vw w (.slice p.oa P.os.length p.oc) P.os := ⟨p.oa, p.oc, rfl, h.o⟩
set_option linter.unusedVariables false in
set_option linter.unusedSimpArgs false in
set_option maxRecDepth 100000 in
set_option maxHeartbeats 4000000 in
theorem jumps_bad22 (w : World) (vb rb : Nat) (p : PV) (P : Prg) (ats : List St) (h : VMem w vb rb p P ats) (hn : P.cd.length ≤ 262144) (at_ : Nat) (hat : at_ < P.cd.length) (a b c d : Int) (v : Value) (s : St) (hs : StM w v s) (ha : pIn P a) (hj : jbad P at_ ⟨22, a, b, c, d⟩ = true) :
    Calls Try.prog 48 #[.pointer (some ⟨vb, 0, none⟩), .int .i64 (at_ : Int), .agg #[.int .i64 22, .int .i64 a, .int .i64 b, .int .i64 c, .int .i64 d], v] w fun en w' => en = .returned (.bool (false)) ∧ Below w.heap.size w w' := by
  obtain ⟨na, g, rfl, hna, hg, hgl, q0, q1, _⟩ := code_at h.m ha
  obtain ⟨oa, ca, rfl, hm⟩ := hs
  obtain ⟨there, ty, ls, hand⟩ := s
  simp only [St.cells] at *
  have hb2 : Below w.heap.size w ((w.alloc (.cells #[.int .i64 22, .int .i64 (na : Int), .int .i64 b, .int .i64 c, .int .i64 d] 46)).alloc (.cells #[.bool there, .string ty, .int .i64 (lv ls 0), .int .i64 (lv ls 1), .int .i64 (lv ls 2), .int .i64 (lv ls 3), .int .i64 (lv ls 4), .int .i64 (lv ls 5), .int .i64 (lv ls 6), .int .i64 (lv ls 7), .int .i64 (ls.length : Int), .int .i64 hand, .slice oa (ls.length - 8) ca] 74)) := ((Below.refl _ w).alloc (Nat.le_refl _) _).alloc (by simp) _
  have kV := h.v.below hb2 h.v.lt
  have v5 : ((w.alloc (.cells #[.int .i64 22, .int .i64 (na : Int), .int .i64 b, .int .i64 c, .int .i64 d] 46)).alloc (.cells #[.bool there, .string ty, .int .i64 (lv ls 0), .int .i64 (lv ls 1), .int .i64 (lv ls 2), .int .i64 (lv ls 3), .int .i64 (lv ls 4), .int .i64 (lv ls 5), .int .i64 (lv ls 6), .int .i64 (lv ls 7), .int .i64 (ls.length : Int), .int .i64 hand, .slice oa (ls.length - 8) ca] 74)).cell? ⟨vb, 5, none⟩ = some (.slice p.ca P.cd.length p.cc) := by rw [kV.cell, ← h.m.cl]; rfl
  rw [hg] at v5
  have c0 : ((w.alloc (.cells #[.int .i64 22, .int .i64 (na : Int), .int .i64 b, .int .i64 c, .int .i64 d] 46)).alloc (.cells #[.bool there, .string ty, .int .i64 (lv ls 0), .int .i64 (lv ls 1), .int .i64 (lv ls 2), .int .i64 (lv ls 3), .int .i64 (lv ls 4), .int .i64 (lv ls 5), .int .i64 (lv ls 6), .int .i64 (lv ls 7), .int .i64 (ls.length : Int), .int .i64 hand, .slice oa (ls.length - 8) ca] 74)).cell? ⟨g, na * 5, none⟩ = some (.int .i64 (insAt P (na : Int)).op) := (hb2.cell (by exact hgl)).trans q0
  have HB := hide hb2
  by_cases h1 : na ≤ at_
  · clear h hn ha hj hm hb2 kV q0 q1 hg hgl
    go_enter Try.func48, Try.ntmps48
    go_wp2
    all_goals first | (exfalso; omega) | (go_ret; exact ⟨rfl, HB.out⟩)
  · have h2 : (insAt P (na : Int)).op = 25 := by
      unfold jbad at hj
      simp only [Bool.or_eq_true, decide_eq_true_eq, beq_iff_eq] at hj
      rcases hj with h3 | h3
      · exact absurd h3 (by omega)
      · exact h3
    rw [h2] at c0
    clear h ha hj hm hb2 kV q0 q1 hg hgl h2
    go_enter Try.func48, Try.ntmps48
    go_wp2
    all_goals first | (exfalso; omega) | (go_ret; exact ⟨rfl, HB.out⟩)
set_option linter.unusedVariables false in
set_option linter.unusedSimpArgs false in
set_option maxRecDepth 100000 in
set_option maxHeartbeats 4000000 in
theorem jumps_bad23 (w : World) (vb rb : Nat) (p : PV) (P : Prg) (ats : List St) (h : VMem w vb rb p P ats) (hn : P.cd.length ≤ 262144) (at_ : Nat) (hat : at_ < P.cd.length) (a b c d : Int) (v : Value) (s : St) (hs : StM w v s) (ha : pIn P a) (hj : jbad P at_ ⟨23, a, b, c, d⟩ = true) :
    Calls Try.prog 48 #[.pointer (some ⟨vb, 0, none⟩), .int .i64 (at_ : Int), .agg #[.int .i64 23, .int .i64 a, .int .i64 b, .int .i64 c, .int .i64 d], v] w fun en w' => en = .returned (.bool (false)) ∧ Below w.heap.size w w' := by
  obtain ⟨na, g, rfl, hna, hg, hgl, q0, q1, _⟩ := code_at h.m ha
  obtain ⟨oa, ca, rfl, hm⟩ := hs
  obtain ⟨there, ty, ls, hand⟩ := s
  simp only [St.cells] at *
  have hb2 : Below w.heap.size w ((w.alloc (.cells #[.int .i64 23, .int .i64 (na : Int), .int .i64 b, .int .i64 c, .int .i64 d] 46)).alloc (.cells #[.bool there, .string ty, .int .i64 (lv ls 0), .int .i64 (lv ls 1), .int .i64 (lv ls 2), .int .i64 (lv ls 3), .int .i64 (lv ls 4), .int .i64 (lv ls 5), .int .i64 (lv ls 6), .int .i64 (lv ls 7), .int .i64 (ls.length : Int), .int .i64 hand, .slice oa (ls.length - 8) ca] 74)) := ((Below.refl _ w).alloc (Nat.le_refl _) _).alloc (by simp) _
  have kV := h.v.below hb2 h.v.lt
  have v5 : ((w.alloc (.cells #[.int .i64 23, .int .i64 (na : Int), .int .i64 b, .int .i64 c, .int .i64 d] 46)).alloc (.cells #[.bool there, .string ty, .int .i64 (lv ls 0), .int .i64 (lv ls 1), .int .i64 (lv ls 2), .int .i64 (lv ls 3), .int .i64 (lv ls 4), .int .i64 (lv ls 5), .int .i64 (lv ls 6), .int .i64 (lv ls 7), .int .i64 (ls.length : Int), .int .i64 hand, .slice oa (ls.length - 8) ca] 74)).cell? ⟨vb, 5, none⟩ = some (.slice p.ca P.cd.length p.cc) := by rw [kV.cell, ← h.m.cl]; rfl
  rw [hg] at v5
  have c0 : ((w.alloc (.cells #[.int .i64 23, .int .i64 (na : Int), .int .i64 b, .int .i64 c, .int .i64 d] 46)).alloc (.cells #[.bool there, .string ty, .int .i64 (lv ls 0), .int .i64 (lv ls 1), .int .i64 (lv ls 2), .int .i64 (lv ls 3), .int .i64 (lv ls 4), .int .i64 (lv ls 5), .int .i64 (lv ls 6), .int .i64 (lv ls 7), .int .i64 (ls.length : Int), .int .i64 hand, .slice oa (ls.length - 8) ca] 74)).cell? ⟨g, na * 5, none⟩ = some (.int .i64 (insAt P (na : Int)).op) := (hb2.cell (by exact hgl)).trans q0
  have HB := hide hb2
  by_cases h1 : na ≤ at_
  · clear h hn ha hj hm hb2 kV q0 q1 hg hgl
    go_enter Try.func48, Try.ntmps48
    go_wp2
    all_goals first | (exfalso; omega) | (go_ret; exact ⟨rfl, HB.out⟩)
  · have h2 : (insAt P (na : Int)).op = 25 := by
      unfold jbad at hj
      simp only [Bool.or_eq_true, decide_eq_true_eq, beq_iff_eq] at hj
      rcases hj with h3 | h3
      · exact absurd h3 (by omega)
      · exact h3
    rw [h2] at c0
    clear h ha hj hm hb2 kV q0 q1 hg hgl h2
    go_enter Try.func48, Try.ntmps48
    go_wp2
    all_goals first | (exfalso; omega) | (go_ret; exact ⟨rfl, HB.out⟩)
set_option linter.unusedVariables false in
set_option linter.unusedSimpArgs false in
set_option maxRecDepth 100000 in
set_option maxHeartbeats 4000000 in
theorem jumps_bad25 (w : World) (vb rb : Nat) (p : PV) (P : Prg) (ats : List St) (h : VMem w vb rb p P ats) (hn : P.cd.length ≤ 262144) (at_ : Nat) (hat : at_ < P.cd.length) (a b c d : Int) (v : Value) (s : St) (hs : StM w v s) (ha : pIn P a) (hj : jbad P at_ ⟨25, a, b, c, d⟩ = true) :
    Calls Try.prog 48 #[.pointer (some ⟨vb, 0, none⟩), .int .i64 (at_ : Int), .agg #[.int .i64 25, .int .i64 a, .int .i64 b, .int .i64 c, .int .i64 d], v] w fun en w' => en = .returned (.bool (false)) ∧ Below w.heap.size w w' := by
  obtain ⟨na, g, rfl, hna, hg, hgl, q0, q1, _⟩ := code_at h.m ha
  obtain ⟨oa, ca, rfl, hm⟩ := hs
  obtain ⟨there, ty, ls, hand⟩ := s
  simp only [St.cells] at *
  have hb2 : Below w.heap.size w ((w.alloc (.cells #[.int .i64 25, .int .i64 (na : Int), .int .i64 b, .int .i64 c, .int .i64 d] 46)).alloc (.cells #[.bool there, .string ty, .int .i64 (lv ls 0), .int .i64 (lv ls 1), .int .i64 (lv ls 2), .int .i64 (lv ls 3), .int .i64 (lv ls 4), .int .i64 (lv ls 5), .int .i64 (lv ls 6), .int .i64 (lv ls 7), .int .i64 (ls.length : Int), .int .i64 hand, .slice oa (ls.length - 8) ca] 74)) := ((Below.refl _ w).alloc (Nat.le_refl _) _).alloc (by simp) _
  have kV := h.v.below hb2 h.v.lt
  have v5 : ((w.alloc (.cells #[.int .i64 25, .int .i64 (na : Int), .int .i64 b, .int .i64 c, .int .i64 d] 46)).alloc (.cells #[.bool there, .string ty, .int .i64 (lv ls 0), .int .i64 (lv ls 1), .int .i64 (lv ls 2), .int .i64 (lv ls 3), .int .i64 (lv ls 4), .int .i64 (lv ls 5), .int .i64 (lv ls 6), .int .i64 (lv ls 7), .int .i64 (ls.length : Int), .int .i64 hand, .slice oa (ls.length - 8) ca] 74)).cell? ⟨vb, 5, none⟩ = some (.slice p.ca P.cd.length p.cc) := by rw [kV.cell, ← h.m.cl]; rfl
  rw [hg] at v5
  have c0 : ((w.alloc (.cells #[.int .i64 25, .int .i64 (na : Int), .int .i64 b, .int .i64 c, .int .i64 d] 46)).alloc (.cells #[.bool there, .string ty, .int .i64 (lv ls 0), .int .i64 (lv ls 1), .int .i64 (lv ls 2), .int .i64 (lv ls 3), .int .i64 (lv ls 4), .int .i64 (lv ls 5), .int .i64 (lv ls 6), .int .i64 (lv ls 7), .int .i64 (ls.length : Int), .int .i64 hand, .slice oa (ls.length - 8) ca] 74)).cell? ⟨g, na * 5, none⟩ = some (.int .i64 (insAt P (na : Int)).op) := (hb2.cell (by exact hgl)).trans q0
  have HB := hide hb2
  by_cases h1 : na ≤ at_
  · clear h hn ha hj hm hb2 kV q0 q1 hg hgl
    go_enter Try.func48, Try.ntmps48
    go_wp2
    all_goals first | (exfalso; omega) | (go_ret; exact ⟨rfl, HB.out⟩)
  · have h2 : (insAt P (na : Int)).op = 25 := by
      unfold jbad at hj
      simp only [Bool.or_eq_true, decide_eq_true_eq, beq_iff_eq] at hj
      rcases hj with h3 | h3
      · exact absurd h3 (by omega)
      · exact h3
    rw [h2] at c0
    clear h ha hj hm hb2 kV q0 q1 hg hgl h2
    go_enter Try.func48, Try.ntmps48
    go_wp2
    all_goals first | (exfalso; omega) | (go_ret; exact ⟨rfl, HB.out⟩)
set_option linter.unusedVariables false in
set_option linter.unusedSimpArgs false in
set_option maxRecDepth 100000 in
set_option maxHeartbeats 4000000 in
theorem jumps_bad26 (w : World) (vb rb : Nat) (p : PV) (P : Prg) (ats : List St) (h : VMem w vb rb p P ats) (hn : P.cd.length ≤ 262144) (at_ : Nat) (hat : at_ < P.cd.length) (a b c d : Int) (v : Value) (s : St) (hs : StM w v s) (ha : pIn P a) (hj : jbad P at_ ⟨26, a, b, c, d⟩ = true) :
    Calls Try.prog 48 #[.pointer (some ⟨vb, 0, none⟩), .int .i64 (at_ : Int), .agg #[.int .i64 26, .int .i64 a, .int .i64 b, .int .i64 c, .int .i64 d], v] w fun en w' => en = .returned (.bool (false)) ∧ Below w.heap.size w w' := by
  obtain ⟨na, g, rfl, hna, hg, hgl, q0, q1, _⟩ := code_at h.m ha
  obtain ⟨oa, ca, rfl, hm⟩ := hs
  obtain ⟨there, ty, ls, hand⟩ := s
  simp only [St.cells] at *
  have hb2 : Below w.heap.size w ((w.alloc (.cells #[.int .i64 26, .int .i64 (na : Int), .int .i64 b, .int .i64 c, .int .i64 d] 46)).alloc (.cells #[.bool there, .string ty, .int .i64 (lv ls 0), .int .i64 (lv ls 1), .int .i64 (lv ls 2), .int .i64 (lv ls 3), .int .i64 (lv ls 4), .int .i64 (lv ls 5), .int .i64 (lv ls 6), .int .i64 (lv ls 7), .int .i64 (ls.length : Int), .int .i64 hand, .slice oa (ls.length - 8) ca] 74)) := ((Below.refl _ w).alloc (Nat.le_refl _) _).alloc (by simp) _
  have kV := h.v.below hb2 h.v.lt
  have v5 : ((w.alloc (.cells #[.int .i64 26, .int .i64 (na : Int), .int .i64 b, .int .i64 c, .int .i64 d] 46)).alloc (.cells #[.bool there, .string ty, .int .i64 (lv ls 0), .int .i64 (lv ls 1), .int .i64 (lv ls 2), .int .i64 (lv ls 3), .int .i64 (lv ls 4), .int .i64 (lv ls 5), .int .i64 (lv ls 6), .int .i64 (lv ls 7), .int .i64 (ls.length : Int), .int .i64 hand, .slice oa (ls.length - 8) ca] 74)).cell? ⟨vb, 5, none⟩ = some (.slice p.ca P.cd.length p.cc) := by rw [kV.cell, ← h.m.cl]; rfl
  rw [hg] at v5
  have c0 : ((w.alloc (.cells #[.int .i64 26, .int .i64 (na : Int), .int .i64 b, .int .i64 c, .int .i64 d] 46)).alloc (.cells #[.bool there, .string ty, .int .i64 (lv ls 0), .int .i64 (lv ls 1), .int .i64 (lv ls 2), .int .i64 (lv ls 3), .int .i64 (lv ls 4), .int .i64 (lv ls 5), .int .i64 (lv ls 6), .int .i64 (lv ls 7), .int .i64 (ls.length : Int), .int .i64 hand, .slice oa (ls.length - 8) ca] 74)).cell? ⟨g, na * 5, none⟩ = some (.int .i64 (insAt P (na : Int)).op) := (hb2.cell (by exact hgl)).trans q0
  have HB := hide hb2
  by_cases h1 : na ≤ at_
  · clear h hn ha hj hm hb2 kV q0 q1 hg hgl
    go_enter Try.func48, Try.ntmps48
    go_wp2
    all_goals first | (exfalso; omega) | (go_ret; exact ⟨rfl, HB.out⟩)
  · have h2 : (insAt P (na : Int)).op = 25 := by
      unfold jbad at hj
      simp only [Bool.or_eq_true, decide_eq_true_eq, beq_iff_eq] at hj
      rcases hj with h3 | h3
      · exact absurd h3 (by omega)
      · exact h3
    rw [h2] at c0
    clear h ha hj hm hb2 kV q0 q1 hg hgl h2
    go_enter Try.func48, Try.ntmps48
    go_wp2
    all_goals first | (exfalso; omega) | (go_ret; exact ⟨rfl, HB.out⟩)
set_option linter.unusedVariables false in
set_option linter.unusedSimpArgs false in
set_option maxRecDepth 100000 in
set_option maxHeartbeats 4000000 in
theorem jumps_good22 (w : World) (vb rb : Nat) (p : PV) (P : Prg) (ats : List St) (h : VMem w vb rb p P ats) (hn : P.cd.length ≤ 262144) (at_ : Nat) (hat : at_ < P.cd.length) (a b c d : Int) (v : Value) (s : St) (hs : StM w v s) (ha : pIn P a) (hj : jbad P at_ ⟨22, a, b, c, d⟩ = false) :
    Calls Try.prog 48 #[.pointer (some ⟨vb, 0, none⟩), .int .i64 (at_ : Int), .agg #[.int .i64 22, .int .i64 a, .int .i64 b, .int .i64 c, .int .i64 d], v] w fun en w' => en = .returned (.bool (true)) ∧ Below w.heap.size w w' := by
  obtain ⟨na, g, rfl, hna, hg, hgl, q0, q1, _⟩ := code_at h.m ha
  obtain ⟨oa, ca, rfl, hm⟩ := hs
  obtain ⟨there, ty, ls, hand⟩ := s
  simp only [St.cells] at *
  have hb2 : Below w.heap.size w ((w.alloc (.cells #[.int .i64 22, .int .i64 (na : Int), .int .i64 b, .int .i64 c, .int .i64 d] 46)).alloc (.cells #[.bool there, .string ty, .int .i64 (lv ls 0), .int .i64 (lv ls 1), .int .i64 (lv ls 2), .int .i64 (lv ls 3), .int .i64 (lv ls 4), .int .i64 (lv ls 5), .int .i64 (lv ls 6), .int .i64 (lv ls 7), .int .i64 (ls.length : Int), .int .i64 hand, .slice oa (ls.length - 8) ca] 74)) := ((Below.refl _ w).alloc (Nat.le_refl _) _).alloc (by simp) _
  have kV := h.v.below hb2 h.v.lt
  have v5 : ((w.alloc (.cells #[.int .i64 22, .int .i64 (na : Int), .int .i64 b, .int .i64 c, .int .i64 d] 46)).alloc (.cells #[.bool there, .string ty, .int .i64 (lv ls 0), .int .i64 (lv ls 1), .int .i64 (lv ls 2), .int .i64 (lv ls 3), .int .i64 (lv ls 4), .int .i64 (lv ls 5), .int .i64 (lv ls 6), .int .i64 (lv ls 7), .int .i64 (ls.length : Int), .int .i64 hand, .slice oa (ls.length - 8) ca] 74)).cell? ⟨vb, 5, none⟩ = some (.slice p.ca P.cd.length p.cc) := by rw [kV.cell, ← h.m.cl]; rfl
  rw [hg] at v5
  have c0 : ((w.alloc (.cells #[.int .i64 22, .int .i64 (na : Int), .int .i64 b, .int .i64 c, .int .i64 d] 46)).alloc (.cells #[.bool there, .string ty, .int .i64 (lv ls 0), .int .i64 (lv ls 1), .int .i64 (lv ls 2), .int .i64 (lv ls 3), .int .i64 (lv ls 4), .int .i64 (lv ls 5), .int .i64 (lv ls 6), .int .i64 (lv ls 7), .int .i64 (ls.length : Int), .int .i64 hand, .slice oa (ls.length - 8) ca] 74)).cell? ⟨g, na * 5, none⟩ = some (.int .i64 (insAt P (na : Int)).op) := (hb2.cell (by exact hgl)).trans q0
  have HB := hide hb2
  unfold jbad at hj
  simp only [Bool.or_eq_false_iff, decide_eq_false_iff_not, beq_eq_false_iff_ne] at hj
  obtain ⟨j1, j2⟩ := hj
  generalize (insAt P (na : Int)).op = o1 at *
  have j3 : (o1 == 25) = false := by simpa using j2
  clear h ha hm hb2 kV q0 q1 hg hgl
  go_enter Try.func48, Try.ntmps48
  go_wp2
  all_goals first | (exfalso; omega) | (go_ret; exact ⟨rfl, HB.out⟩)
set_option linter.unusedVariables false in
set_option linter.unusedSimpArgs false in
set_option maxRecDepth 100000 in
set_option maxHeartbeats 4000000 in
theorem jumps_good23 (w : World) (vb rb : Nat) (p : PV) (P : Prg) (ats : List St) (h : VMem w vb rb p P ats) (hn : P.cd.length ≤ 262144) (at_ : Nat) (hat : at_ < P.cd.length) (a b c d : Int) (v : Value) (s : St) (hs : StM w v s) (ha : pIn P a) (hj : jbad P at_ ⟨23, a, b, c, d⟩ = false) :
    Calls Try.prog 48 #[.pointer (some ⟨vb, 0, none⟩), .int .i64 (at_ : Int), .agg #[.int .i64 23, .int .i64 a, .int .i64 b, .int .i64 c, .int .i64 d], v] w fun en w' => en = .returned (.bool (true)) ∧ Below w.heap.size w w' := by
  obtain ⟨na, g, rfl, hna, hg, hgl, q0, q1, _⟩ := code_at h.m ha
  obtain ⟨oa, ca, rfl, hm⟩ := hs
  obtain ⟨there, ty, ls, hand⟩ := s
  simp only [St.cells] at *
  have hb2 : Below w.heap.size w ((w.alloc (.cells #[.int .i64 23, .int .i64 (na : Int), .int .i64 b, .int .i64 c, .int .i64 d] 46)).alloc (.cells #[.bool there, .string ty, .int .i64 (lv ls 0), .int .i64 (lv ls 1), .int .i64 (lv ls 2), .int .i64 (lv ls 3), .int .i64 (lv ls 4), .int .i64 (lv ls 5), .int .i64 (lv ls 6), .int .i64 (lv ls 7), .int .i64 (ls.length : Int), .int .i64 hand, .slice oa (ls.length - 8) ca] 74)) := ((Below.refl _ w).alloc (Nat.le_refl _) _).alloc (by simp) _
  have kV := h.v.below hb2 h.v.lt
  have v5 : ((w.alloc (.cells #[.int .i64 23, .int .i64 (na : Int), .int .i64 b, .int .i64 c, .int .i64 d] 46)).alloc (.cells #[.bool there, .string ty, .int .i64 (lv ls 0), .int .i64 (lv ls 1), .int .i64 (lv ls 2), .int .i64 (lv ls 3), .int .i64 (lv ls 4), .int .i64 (lv ls 5), .int .i64 (lv ls 6), .int .i64 (lv ls 7), .int .i64 (ls.length : Int), .int .i64 hand, .slice oa (ls.length - 8) ca] 74)).cell? ⟨vb, 5, none⟩ = some (.slice p.ca P.cd.length p.cc) := by rw [kV.cell, ← h.m.cl]; rfl
  rw [hg] at v5
  have c0 : ((w.alloc (.cells #[.int .i64 23, .int .i64 (na : Int), .int .i64 b, .int .i64 c, .int .i64 d] 46)).alloc (.cells #[.bool there, .string ty, .int .i64 (lv ls 0), .int .i64 (lv ls 1), .int .i64 (lv ls 2), .int .i64 (lv ls 3), .int .i64 (lv ls 4), .int .i64 (lv ls 5), .int .i64 (lv ls 6), .int .i64 (lv ls 7), .int .i64 (ls.length : Int), .int .i64 hand, .slice oa (ls.length - 8) ca] 74)).cell? ⟨g, na * 5, none⟩ = some (.int .i64 (insAt P (na : Int)).op) := (hb2.cell (by exact hgl)).trans q0
  have HB := hide hb2
  unfold jbad at hj
  simp only [Bool.or_eq_false_iff, decide_eq_false_iff_not, beq_eq_false_iff_ne] at hj
  obtain ⟨j1, j2⟩ := hj
  generalize (insAt P (na : Int)).op = o1 at *
  have j3 : (o1 == 25) = false := by simpa using j2
  clear h ha hm hb2 kV q0 q1 hg hgl
  go_enter Try.func48, Try.ntmps48
  go_wp2
  all_goals first | (exfalso; omega) | (go_ret; exact ⟨rfl, HB.out⟩)
set_option linter.unusedVariables false in
set_option linter.unusedSimpArgs false in
set_option maxRecDepth 100000 in
set_option maxHeartbeats 4000000 in
theorem jumps_0 (w : World) (vb rb : Nat) (p : PV) (P : Prg) (ats : List St) (h : VMem w vb rb p P ats) (hn : P.cd.length ≤ 262144) (at_ : Nat) (hat : at_ < P.cd.length) (a b c d : Int) (v : Value) (s : St) (hs : StM w v s) :
    Calls Try.prog 48 #[.pointer (some ⟨vb, 0, none⟩), .int .i64 (at_ : Int), .agg #[.int .i64 0, .int .i64 a, .int .i64 b, .int .i64 c, .int .i64 d], v] w fun en w' => en = .returned (.bool (s.ls.length == 0)) ∧ Below w.heap.size w w' := by
  obtain ⟨oa, ca, rfl, hm⟩ := hs
  obtain ⟨there, ty, ls, hand⟩ := s
  simp only [St.cells] at *
  have hb2 : Below w.heap.size w ((w.alloc (.cells #[.int .i64 0, .int .i64 a, .int .i64 b, .int .i64 c, .int .i64 d] 46)).alloc (.cells #[.bool there, .string ty, .int .i64 (lv ls 0), .int .i64 (lv ls 1), .int .i64 (lv ls 2), .int .i64 (lv ls 3), .int .i64 (lv ls 4), .int .i64 (lv ls 5), .int .i64 (lv ls 6), .int .i64 (lv ls 7), .int .i64 (ls.length : Int), .int .i64 hand, .slice oa (ls.length - 8) ca] 74)) := ((Below.refl _ w).alloc (Nat.le_refl _) _).alloc (by simp) _
  have kV := h.v.below hb2 h.v.lt
  have v5 : ((w.alloc (.cells #[.int .i64 0, .int .i64 a, .int .i64 b, .int .i64 c, .int .i64 d] 46)).alloc (.cells #[.bool there, .string ty, .int .i64 (lv ls 0), .int .i64 (lv ls 1), .int .i64 (lv ls 2), .int .i64 (lv ls 3), .int .i64 (lv ls 4), .int .i64 (lv ls 5), .int .i64 (lv ls 6), .int .i64 (lv ls 7), .int .i64 (ls.length : Int), .int .i64 hand, .slice oa (ls.length - 8) ca] 74)).cell? ⟨vb, 5, none⟩ = some (.slice p.ca P.cd.length p.cc) := by rw [kV.cell, ← h.m.cl]; rfl
  have HB := hide hb2
  generalize hk : ls.length = k at *
  clear h hm hb2 kV hk
  have ek : (k == 0) = ((k : Int) == 0) := by rw [Bool.eq_iff_iff]; simp
  rw [ek]
  clear ek
  go_enter Try.func48, Try.ntmps48
  go_wp2
  all_goals (go_ret; exact ⟨rfl, HB.out⟩)
set_option linter.unusedVariables false in
set_option linter.unusedSimpArgs false in
set_option maxRecDepth 100000 in
set_option maxHeartbeats 4000000 in
theorem jumps_else (w : World) (vb rb : Nat) (p : PV) (P : Prg) (ats : List St) (h : VMem w vb rb p P ats) (hn : P.cd.length ≤ 262144) (at_ : Nat) (hat : at_ < P.cd.length) (op a b c d : Int) (v : Value) (s : St) (hs : StM w v s) (h0 : op ≠ 0) (h1 : op ≠ 22) (h2 : op ≠ 23) (h3 : op ≠ 24) (h4 : op ≠ 25) (h5 : op ≠ 26) (h6 : op ≠ 27) :
    Calls Try.prog 48 #[.pointer (some ⟨vb, 0, none⟩), .int .i64 (at_ : Int), .agg #[.int .i64 op, .int .i64 a, .int .i64 b, .int .i64 c, .int .i64 d], v] w fun en w' => en = .returned (.bool (true)) ∧ Below w.heap.size w w' := by
  obtain ⟨oa, ca, rfl, hm⟩ := hs
  obtain ⟨there, ty, ls, hand⟩ := s
  simp only [St.cells] at *
  have hb2 : Below w.heap.size w ((w.alloc (.cells #[.int .i64 op, .int .i64 a, .int .i64 b, .int .i64 c, .int .i64 d] 46)).alloc (.cells #[.bool there, .string ty, .int .i64 (lv ls 0), .int .i64 (lv ls 1), .int .i64 (lv ls 2), .int .i64 (lv ls 3), .int .i64 (lv ls 4), .int .i64 (lv ls 5), .int .i64 (lv ls 6), .int .i64 (lv ls 7), .int .i64 (ls.length : Int), .int .i64 hand, .slice oa (ls.length - 8) ca] 74)) := ((Below.refl _ w).alloc (Nat.le_refl _) _).alloc (by simp) _
  have kV := h.v.below hb2 h.v.lt
  have v5 : ((w.alloc (.cells #[.int .i64 op, .int .i64 a, .int .i64 b, .int .i64 c, .int .i64 d] 46)).alloc (.cells #[.bool there, .string ty, .int .i64 (lv ls 0), .int .i64 (lv ls 1), .int .i64 (lv ls 2), .int .i64 (lv ls 3), .int .i64 (lv ls 4), .int .i64 (lv ls 5), .int .i64 (lv ls 6), .int .i64 (lv ls 7), .int .i64 (ls.length : Int), .int .i64 hand, .slice oa (ls.length - 8) ca] 74)).cell? ⟨vb, 5, none⟩ = some (.slice p.ca P.cd.length p.cc) := by rw [kV.cell, ← h.m.cl]; rfl
  have HB := hide hb2
  clear h hm hb2 kV
  go_enter Try.func48, Try.ntmps48
  go_wp2
  all_goals (go_ret; exact ⟨rfl, HB.out⟩)
end Go.Proofs.Ytjflllfkgbhemaa
