/- The walk of ways. Conditions: the bounds that are named. -/
import Derived.Test.YtjflllfkgbhemaaV17
namespace Go.Proofs.Ytjflllfkgbhemaa
open Go.RowKit

/-- a way at index i of a block: a place, a standing -/
def WyAt (w : World) (g i : Nat) (p : Int) (s : St) : Prop :=
  ∃ oa ca, Mt w oa ca (s.ls.drop 8) ∧ w.cell? ⟨g, i * 14, none⟩ = some (.int .i64 p) ∧ ∀ j x, (s.cells (.slice oa (s.ls.length - 8) ca))[j]? = some x → w.cell? ⟨g, i * 14 + 1 + j, none⟩ = some x
def Wy (w : World) (v : Value) (l : List (Int × St)) : Prop :=
  ∃ oa c, v = .slice oa l.length c ∧ l.length ≤ c ∧ ∀ i p, l[i]? = some p → ∃ g, oa = some ⟨g, 0, none⟩ ∧ g < w.heap.size ∧ WyAt w g i p.1 p.2 ∧ ∃ cs, Blk w g 108 cs
theorem WyAt.of_blk {w : World} {g : Nat} {t : TypeId} {cs : Array Value} (h : Blk w g t cs) {i : Nat} {p : Int} {s : St} {oa : Option Addr} {ca : Nat} (hm : Mt w oa ca (s.ls.drop 8))
    (h0 : cs[i * 14]? = some (.int .i64 p)) (h1 : ∀ j x, (s.cells (.slice oa (s.ls.length - 8) ca))[j]? = some x → cs[i * 14 + 1 + j]? = some x) : WyAt w g i p s :=
  ⟨oa, ca, hm, by rw [h.cell]; exact h0, fun j x hx => by rw [h.cell]; exact h1 j x hx⟩
theorem St.cells_size (s : St) (mv : Value) : (s.cells mv).size = 13 := rfl
theorem wayBlk (w : World) (o1 o2 : Obj) (cs : Array Value) (t : TypeId) : Blk (((w.alloc o1).alloc o2).alloc (.cells cs t)) (w.heap.size + 1 + 1) t cs := by
  have := Blk.new ((w.alloc o1).alloc o2) t cs
  simpa using this
theorem wayLow (w : World) (o1 o2 o3 : Obj) : Below w.heap.size w (((w.alloc o1).alloc o2).alloc o3) := (((Below.refl _ w).alloc (Nat.le_refl _) _).alloc (by simp) _).alloc (by simp; omega) _
theorem wy_one {W : World} {g : Nat} {cs : Array Value} {p : Int} {s : St} {oa : Option Addr} {ca c : Nat} (h : Blk W g 108 cs) (hm : Mt W oa ca (s.ls.drop 8)) (hcs : cs = #[.int .i64 p] ++ s.cells (.slice oa (s.ls.length - 8) ca)) (hc : 1 ≤ c := by decide) :
    Wy W (.slice (some ⟨g, 0, none⟩) 1 c) [(p, s)] := by
  refine ⟨_, c, rfl, hc, fun i q hq => ?_⟩
  obtain rfl : i = 0 := by
    have := (List.getElem?_eq_some_iff.1 hq).1
    simp at this
    exact this
  simp at hq
  subst hq
  refine ⟨g, rfl, h.lt, WyAt.of_blk h hm ?_ fun j x hx => ?_, _, h⟩
  · rw [hcs, Array.getElem?_append_left (by simp)]
    simp
  · rw [hcs, Array.getElem?_append_right (by simp)]
    simpa using hx
theorem wy_two {W : World} {g : Nat} {cs : Array Value} {p q : Int} {s r : St} {oa ob : Option Addr} {ca cb c : Nat} (h : Blk W g 108 cs) (hm : Mt W oa ca (s.ls.drop 8)) (hn : Mt W ob cb (r.ls.drop 8))
    (hcs : cs = (#[.int .i64 p] ++ s.cells (.slice oa (s.ls.length - 8) ca)) ++ (#[.int .i64 q] ++ r.cells (.slice ob (r.ls.length - 8) cb))) (hc : 2 ≤ c := by decide) :
    Wy W (.slice (some ⟨g, 0, none⟩) 2 c) [(p, s), (q, r)] := by
  have z1 : (#[Value.int .i64 p] ++ s.cells (.slice oa (s.ls.length - 8) ca)).size = 14 := rfl
  refine ⟨_, c, rfl, hc, fun i u hu => ?_⟩
  have hi : i = 0 ∨ i = 1 := by
    have := (List.getElem?_eq_some_iff.1 hu).1
    simp at this
    omega
  rcases hi with rfl | rfl
  · simp at hu
    subst hu
    refine ⟨g, rfl, h.lt, WyAt.of_blk h hm ?_ fun j x hx => ?_, _, h⟩
    · rw [hcs, Array.getElem?_append_left (by rw [z1]; omega), Array.getElem?_append_left (by simp)]
      simp
    · have hj : j < 13 := (Array.getElem?_eq_some_iff.1 hx).1
      rw [hcs, Array.getElem?_append_left (by rw [z1]; omega), Array.getElem?_append_right (by simp)]
      simpa using hx
  · simp at hu
    subst hu
    refine ⟨g, rfl, h.lt, WyAt.of_blk h hn ?_ fun j x hx => ?_, _, h⟩
    · rw [hcs, Array.getElem?_append_right (by rw [z1]; omega), z1, Array.getElem?_append_left (by simp)]
      simp
    · rw [hcs, Array.getElem?_append_right (by rw [z1]; omega), z1, Array.getElem?_append_right (by simp; omega)]
      have e : 1 * 14 + 1 + j - 14 - 1 = j := by omega
      simpa [e] using hx
def waysV (at_ : Int) (x : Ins) (s : St) : List (Int × St) :=
  if x.op = 0 then [] else if x.op = 27 then [] else if x.op = 22 then [(x.a, s)] else if x.op = 23 then [(at_ + 1, s), (x.a, s)]
  else if x.op = 25 then [(at_ + 1, { s with ls := s.ls ++ [at_] }), (x.a, s)] else if x.op = 26 then [(at_ + 1, s), (x.a, { s with ls := s.ls.dropLast })] else [(at_ + 1, s)]
set_option linter.unusedVariables false in
set_option maxRecDepth 100000 in
set_option maxHeartbeats 4000000 in
theorem ways_plain (w : World) (at_ : Nat) (x : Ins) (v : Value) (s : St) (h : StM w v s) (hat : at_ ≤ 4194304) (h25 : x.op ≠ 25) (h26 : x.op ≠ 26) :
    Calls Try.prog 50 #[.int .i64 (at_ : Int), .agg #[.int .i64 x.op, .int .i64 x.a, .int .i64 x.b, .int .i64 x.c, .int .i64 x.d], v] w fun en w' => ∃ v', en = .returned v' ∧ Wy w' v' (waysV at_ x s) ∧ Below w.heap.size w w' := by
  obtain ⟨oa, ca, rfl, hm⟩ := h
  obtain ⟨op, a, b, c, d⟩ := x
  simp only at h25 h26 ⊢
  have HM := hide hm
  clear hm
  by_cases o0 : op = 0 ∨ op = 27
  · have hV : waysV at_ ⟨op, a, b, c, d⟩ s = [] := by rcases o0 with rfl | rfl <;> simp [waysV]
    have HV := hide hV
    obtain ⟨there, ty, ls, hand⟩ := s
    simp only [St.cells] at *
    clear hV
    rcases o0 with rfl | rfl
    all_goals
      go_enter Try.func50, Try.ntmps50
      go_wp2
      go_ret
      refine ⟨_, rfl, ?_, ((Below.refl _ w).alloc (Nat.le_refl _) _).alloc (by simp) _⟩
      rw [HV.out]
      exact ⟨none, 0, rfl, Nat.le_refl _, fun i p hp => by simp at hp⟩
  · by_cases o1 : op = 22
    · subst o1
      have hV : waysV at_ ⟨22, a, b, c, d⟩ s = [(a, s)] := by simp [waysV]
      have HV := hide hV
      obtain ⟨there, ty, ls, hand⟩ := s
      simp only [St.cells] at *
      clear hV
      go_enter Try.func50, Try.ntmps50
      go_wp2
      go_ret
      refine ⟨_, rfl, ?_, wayLow _ _ _ _⟩
      rw [HV.out]
      exact wy_one (wayBlk _ _ _ _ _) (HM.out.below (wayLow _ _ _ _)) (by simp [St.cells])
    · by_cases o2 : op = 23
      · subst o2
        have hV : waysV at_ ⟨23, a, b, c, d⟩ s = [((at_ : Int) + 1, s), (a, s)] := by simp [waysV]
        have HV := hide hV
        obtain ⟨there, ty, ls, hand⟩ := s
        simp only [St.cells] at *
        clear hV
        go_enter Try.func50, Try.ntmps50
        go_wp2
        go_ret
        refine ⟨_, rfl, ?_, wayLow _ _ _ _⟩
        rw [HV.out]
        exact wy_two (wayBlk _ _ _ _ _) (HM.out.below (wayLow _ _ _ _)) (HM.out.below (wayLow _ _ _ _)) (by simp [St.cells])
      · have f0 : op ≠ 0 := fun e => o0 (.inl e)
        have f1 : op ≠ 27 := fun e => o0 (.inr e)
        have hV : waysV at_ ⟨op, a, b, c, d⟩ s = [((at_ : Int) + 1, s)] := by simp [waysV, f0, f1, o1, o2, h25, h26]
        have HV := hide hV
        obtain ⟨there, ty, ls, hand⟩ := s
        simp only [St.cells] at *
        clear hV o0
        go_enter Try.func50, Try.ntmps50
        go_wp2
        go_ret
        refine ⟨_, rfl, ?_, wayLow _ _ _ _⟩
        rw [HV.out]
        exact wy_one (wayBlk _ _ _ _ _) (HM.out.below (wayLow _ _ _ _)) (by simp [St.cells])
end Go.Proofs.Ytjflllfkgbhemaa
