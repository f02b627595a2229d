/- Standings, with and without a loop more; inner. Conditions: the bounds that are named. -/
import Derived.Test.YtjflllfkgbhemaaV11
namespace Go.Proofs.Ytjflllfkgbhemaa
open Go.RowKit

/-- a standing as a value -/
def StM (w : World) (v : Value) (s : St) : Prop := ∃ oa ca, v = .agg (s.cells (.slice oa (s.ls.length - 8) ca)) ∧ Mt w oa ca (s.ls.drop 8)
theorem StM.below {w w' : World} {v : Value} {s : St} (h : StM w v s) (hb : Below w.heap.size w w') : StM w' v s := by
  obtain ⟨oa, ca, rfl, hm⟩ := h
  exact ⟨oa, ca, rfl, hm.below hb⟩
theorem with_i (w : World) (v : Value) (s : St) (t : Int) (h : StM w v s) (hl : s.ls.length ≤ 4194304) :
    Calls Try.prog 72 #[v, .int .i64 t] w fun en w' => ∃ v', en = .returned v' ∧ StM w' v' { s with ls := s.ls ++ [t] } ∧ Below w.heap.size w w' := by
  obtain ⟨oa, ca, rfl, hm⟩ := h
  by_cases h8 : s.ls.length < 8
  · refine (with_low w s t oa (s.ls.length - 8) ca s.ls.length rfl h8).mono ?_
    rintro en w' ⟨he, hb⟩
    have e0 : (s.ls ++ [t]).drop 8 = [] := List.drop_eq_nil_of_le (by simp; omega)
    refine ⟨_, he, ⟨oa, ca, ?_, ?_⟩, hb⟩
    · rw [show s.ls.length - 8 = (s.ls ++ [t]).length - 8 from by simp; omega]
    · have := hm.below hb
      simp only [e0]
      exact ⟨⟨Nat.zero_le _, this.top, this.none_, this.some_, fun i x hx => by simp at hx⟩, this.ty3⟩
  · obtain ⟨k, hk⟩ : ∃ k, s.ls.length = k + 8 := ⟨s.ls.length - 8, by omega⟩
    have e1 : s.ls.length - 8 = k := by omega
    rw [e1]
    refine (with_high w s t oa ca k hk hm.toMv (by omega)).mono ?_
    rintro en w' ⟨g', ca', he, hm', hb⟩
    refine ⟨_, he, ⟨some ⟨g', 0, none⟩, ca', ?_, hm'⟩, hb⟩
    rw [show (s.ls ++ [t]).length - 8 = k + 1 from by simp; omega]
theorem without_i (w : World) (v : Value) (s : St) (h : StM w v s) (h0 : 0 < s.ls.length) (hl : s.ls.length ≤ 4194304) :
    Calls Try.prog 71 #[v] w fun en w' => ∃ v', en = .returned v' ∧ StM w' v' { s with ls := s.ls.dropLast } ∧ Below w.heap.size w w' := by
  obtain ⟨oa, ca, rfl, hm⟩ := h
  by_cases h8 : s.ls.length ≤ 8
  · refine (without_low w s oa (s.ls.length - 8) ca (s.ls.length - 1) (by omega) (by omega)).mono ?_
    rintro en w' ⟨he, hb⟩
    have e0 : s.ls.dropLast.drop 8 = [] := List.drop_eq_nil_of_le (by simp; omega)
    refine ⟨_, he, ⟨oa, ca, ?_, ?_⟩, hb⟩
    · rw [show s.ls.length - 8 = s.ls.dropLast.length - 8 from by simp; omega]
    · have := hm.below hb
      simp only [e0]
      exact ⟨⟨Nat.zero_le _, this.top, this.none_, this.some_, fun i x hx => by simp at hx⟩, this.ty3⟩
  · obtain ⟨k, hk⟩ : ∃ k, s.ls.length = k + 9 := ⟨s.ls.length - 9, by omega⟩
    have e1 : s.ls.length - 8 = k + 1 := by omega
    have hdl : (s.ls.drop 8).length = k + 1 := by simp [hk]
    obtain ⟨y, hy⟩ : ∃ y, (s.ls.drop 8)[0]? = some y := ⟨_, List.getElem?_eq_getElem (by omega)⟩
    obtain ⟨g, rfl, hg, _⟩ := hm.at_ 0 y hy
    have hle := hm.le
    rw [e1]
    refine (without_high w s g k ca hk (by omega) (by omega) hm.top).mono ?_
    rintro en w' ⟨he, hb⟩
    have hm' := hm.below hb
    have e2 : s.ls.dropLast.drop 8 = (s.ls.drop 8).dropLast := by
      rw [List.dropLast_eq_take, List.dropLast_eq_take, List.drop_take, List.length_drop]
      congr 1
    refine ⟨_, he, ⟨some ⟨g, 0, none⟩, ca, ?_, ?_⟩, hb⟩
    · rw [show s.ls.dropLast.length - 8 = k from by simp; omega]
    · simp only [e2]
      refine ⟨⟨by simp; omega, hm'.top, hm'.none_, hm'.some_, fun i x hx => hm'.at_ i x ?_⟩, hm'.ty3⟩
      rw [List.getElem?_dropLast] at hx
      split at hx
      · exact hx
      · cases hx
theorem StM.toV {w : World} {v : Value} {s : St} (h : StM w v s) : StV w v s := by
  obtain ⟨oa, ca, rfl, hm⟩ := h
  exact ⟨_, rfl, oa, ca, by simp, hm.at_⟩
end Go.Proofs.Ytjflllfkgbhemaa
