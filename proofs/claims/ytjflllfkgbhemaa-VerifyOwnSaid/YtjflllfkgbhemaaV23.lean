/- taken, as one law. Conditions: the bounds that are named. -/
import Derived.Test.YtjflllfkgbhemaaV22x
import Derived.Test.YtjflllfkgbhemaaV22y
import Derived.Test.YtjflllfkgbhemaaV12
namespace Go.Proofs.Ytjflllfkgbhemaa
open Go.RowKit Go.PlainAid
theorem taken_i (w : World) (pv : Value) (x : Ins) (v : Value) (s : St) (h : StM w v s) (hs : s.ty.size ≤ 4194304) :
    Calls Try.prog 46 #[pv, .agg #[.int .i64 x.op, .int .i64 x.a, .int .i64 x.b, .int .i64 x.c, .int .i64 x.d], v] w fun en w' => ∃ v', en = .returned (.tuple #[v', .int .i64 (takenV x.op s).2]) ∧ StM w' v' (takenV x.op s).1 ∧ Below w.heap.size w w' := by
  obtain ⟨oa, ca, rfl, hm⟩ := h
  obtain ⟨op, a, b, c, d⟩ := x
  simp only
  have low : ∀ (_ : s.ty.size < (takesL op).length ∨ (takesL op).length ≤ s.ty.size ∧ (op = 0 ∧ 0 < s.ty.size - (takesL op).length ∨ givesV op ≠ 0 ∧ 256 < s.ty.size - (takesL op).length + 1)), takenV op s = (s, 93) → Calls Try.prog 46 #[pv, .agg #[.int .i64 op, .int .i64 a, .int .i64 b, .int .i64 c, .int .i64 d], .agg (s.cells (.slice oa (s.ls.length - 8) ca))] w fun en w' => ∃ v', en = .returned (.tuple #[v', .int .i64 (takenV op s).2]) ∧ StM w' v' (takenV op s).1 ∧ Below w.heap.size w w' := by
    intro hd ht
    rw [ht]
    refine (taken_low w pv op a b c d oa (s.ls.length - 8) ca s hs hd).mono ?_
    rintro en w' ⟨rfl, hb⟩
    exact ⟨_, rfl, ⟨oa, ca, rfl, hm.below hb⟩, hb⟩
  by_cases h1 : s.ty.size < (takesL op).length
  · exact low (.inl h1) (by unfold takenV; rw [if_pos h1])
  · by_cases h2 : op = 0 ∧ 0 < s.ty.size - (takesL op).length ∨ givesV op ≠ 0 ∧ 256 < s.ty.size - (takesL op).length + 1
    · exact low (.inr ⟨by omega, h2⟩) (by unfold takenV; rw [if_neg h1, if_pos h2])
    · have ht : takenV op s = if (List.range (takesL op).length).all (fitsV op s.ty (s.ty.size - (takesL op).length)) then ({ s with ty := pushV op s.ty (s.ty.size - (takesL op).length) }, 0) else (s, 94) := by
        unfold takenV; rw [if_neg h1, if_neg h2]
      have hc : Calls Try.prog 46 #[pv, .agg #[.int .i64 op, .int .i64 a, .int .i64 b, .int .i64 c, .int .i64 d], .agg (s.cells (.slice oa (s.ls.length - 8) ca))] w fun en w' => (if (List.range (takesL op).length).all (fitsV op s.ty (s.ty.size - (takesL op).length)) then en = .returned (.tuple #[.agg (({ s with ty := pushV op s.ty (s.ty.size - (takesL op).length) } : St).cells (.slice oa (s.ls.length - 8) ca)), .int .i64 0]) else en = .returned (.tuple #[.agg (s.cells (.slice oa (s.ls.length - 8) ca)), .int .i64 94])) ∧ Below w.heap.size w w' := by
        have hg := givesV_le op
        have e1 : s.ty.size = (s.ty.size - (takesL op).length) + (takesL op).length := by omega
        have e2 : s.ty.size - (takesL op).length + (takesL op).length ≤ 4194304 := by omega
        have e3 : op ≠ 0 ∨ s.ty.size - (takesL op).length = 0 := by omega
        have e4 : givesV op = 0 ∨ s.ty.size - (takesL op).length + 1 ≤ 256 := by omega
        have hG : givesV op = 0 ∨ givesV op = 1 ∨ givesV op = 2 := by omega
        by_cases hop : op = 0
        · have hz : s.ty.size - (takesL op).length = 0 := by omega
          have hm0 : (takesL op).length = 0 := by rw [hop]; rfl
          exact taken_go0z w pv op a b c d oa _ ca s _ _ rfl e2 e1 hop hz hm0 (by rw [hop]; rfl) e4
        · rcases hG with hG | hG | hG
          · exact taken_go0 w pv op a b c d oa _ ca s _ _ rfl e2 e1 hop hG e4
          · exact taken_go1 w pv op a b c d oa _ ca s _ _ rfl e2 e1 hop hG e4
          · exact taken_go2 w pv op a b c d oa _ ca s _ _ rfl e2 e1 hop hG e4
      refine hc.mono ?_
      rintro en w' ⟨he, hb⟩
      rw [ht]
      split at he
      · next hq =>
        rw [if_pos hq]
        exact ⟨_, he, ⟨oa, ca, rfl, hm.below hb⟩, hb⟩
      · next hq =>
        rw [if_neg hq]
        exact ⟨_, he, ⟨oa, ca, rfl, hm.below hb⟩, hb⟩
end Go.Proofs.Ytjflllfkgbhemaa
