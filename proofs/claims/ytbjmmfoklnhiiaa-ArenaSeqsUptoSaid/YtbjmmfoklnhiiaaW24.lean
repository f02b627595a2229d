/- The walk of the law's 'without'. Conditions: the list is short enough to be appended to. -/
import Derived.Test.YtbjmmfoklnhiiaaW21
import Derived.Test.YtbjmmfoklnhiiaaW23
import Derived.Deep.DeepMust
namespace Go.Proofs.Ytbjmmfoklnhiiaa
open Go.RowKit

def ints (l : List Int) : List Value := l.map fun x => .int .i64 x
theorem Vw.of_ints {w : World} {base : Nat} {v : Value} {l : List Int} (h : w.ownsRow base 3 1 v l.length (ints l)) : Vw w v l := by
  rcases Nat.eq_zero_or_pos l.length with h0 | h0
  · obtain ⟨a, c, rfl⟩ := own_len h
    have : l = [] := List.eq_nil_of_length_eq_zero h0
    subst this
    exact ⟨a, c, by simp, fun i x hx => by simp at hx⟩
  · obtain ⟨g, cap, rfl, _⟩ := own_form h h0
    refine ⟨some ⟨g, 0, none⟩, cap, rfl, fun i x hx => ⟨g, rfl, (h.lt g rfl).2, ?_⟩⟩
    have hi : i < l.length := (List.getElem?_eq_some_iff.1 hx).1
    rw [h.cellAt i (by omega)]
    simp [ints, hx]

set_option maxRecDepth 100000 in
set_option maxHeartbeats 1000000 in
theorem without_i (w : World) (v : Value) (l : List Int) (x : Int) (hv : Vw w v l) (hl : l.length ≤ 4194304) :
    Calls Try.prog 28 #[v, .int .i64 x] w fun en w' => ∃ u, en = .returned u ∧ Vw w' u (l.filter fun y => y != x) ∧ Below w.heap.size w w' := by
  obtain ⟨oa, ca, rfl, ha⟩ := hv
  obtain ⟨i0, hi0, hz0, hz1, hz2⟩ := info_parts info3
  have HA := hide ha
  clear ha
  go_enter Try.func28, Try.ntmps28
  go_wp2
  go_loopw [5, 6] (fun tu tx wr => ∃ (i : Nat) (u : Value) (m : List Int), tu = u ∧ tx = .int .i64 (i : Int) ∧ i ≤ l.length ∧ m = (l.take i).filter (fun y => y != x) ∧ wr.ownsRow w.heap.size 3 1 u m.length (ints m) ∧ Below w.heap.size w wr)
    (fun _ tx _ => l.length - (intOf tx).toNat)
  case atStart => exact ⟨0, _, [], rfl, rfl, Nat.zero_le _, rfl, World.ownsRow_nil _ _ _ _, Below.refl _ _⟩
  case round =>
    obtain ⟨i, tu, m, rfl, rfl, hi, hm, ho, hB⟩ := hrel
    obtain ⟨a, c, rfl⟩ := own_len ho
    by_cases hlt : i < l.length
    · have hy : l[i]? = some l[i] := List.getElem?_eq_getElem hlt
      generalize l[i] = y at hy
      obtain ⟨g, rfl, hg, c0⟩ := HA.out i y hy
      have c1 := (hB.cell (p := ⟨g, i, none⟩) (by exact hg)).trans c0
      have hml : m.length ≤ i := by rw [hm]; exact Nat.le_trans (List.length_filter_le _ _) (by rw [List.length_take]; omega)
      have hnext : (l.take (i + 1)).filter (fun y => y != x) = if y = x then m else m ++ [y] := by
        rw [List.take_add_one, hy, List.filter_append, ← hm]
        by_cases e : y = x
        · simp [e]
        · simp [e]
      have HNX := hide hnext
      have HO := hide ho
      have HB := hide hB
      have hsz := hB.size
      clear hnext ho hB hm hy c0
      by_cases e : y = x
      · subst e
        go_wp2
        go_roundw
        case rel => exact ⟨i + 1, _, m, rfl, by go_num, by omega, by rw [HNX.out, if_pos rfl], HO.out, HB.out⟩
        case measure => simp [intOf]; omega
      · have hb1 : m.length + 1 ≤ maxLen := by unfold maxLen; omega
        have hb2 : (m.length + 1) * 8 ≤ 140737488355328 := by omega
        go_wp2_with
          (at_builtin
           go_must (refine wpList_append_own_at _ rfl (.tmp 19) (.tmp 24) 35 rfl w.heap.size 3 i0 (.int .i64 0) 1 8 Try.underlying35 hi0 hz0 hz1 hz2 rfl (by decide) (.slice a m.length c) m.length (ints m) rfl (HO.out.alloc _) ⟨wr.heap.size, 0, none⟩ 1 1 [.int .i64 y] rfl rfl (cells_new _ _ _) (by simp [Value.oneCell']) hb1 hb2 (by simp; omega) ?_)
           intro v' w2 hown' hgrow _ _
           have HO2 := hide hown'
           have HG2 := hide hgrow
           clear hown' hgrow)
        go_roundw
        case rel =>
          refine ⟨i + 1, _, m ++ [y], rfl, by go_num, by omega, by rw [HNX.out, if_neg e], ?_, ?_⟩
          · have := HO2.out
            simpa [ints] using this
          · exact (HB.out.alloc hsz _).grown HG2.out (by simp; omega) (fun j hj => by have := (HO.out.lt j hj).1; omega)
        case measure => simp [intOf]; omega
    · have hil : i = l.length := by omega
      rw [hil, List.take_of_length_le (Nat.le_refl _)] at hm
      subst hm
      have HO := hide ho
      have HB := hide hB
      clear ho hB
      go_wp2
      go_ret
      exact ⟨_, rfl, .of_ints HO.out, HB.out⟩
end Go.Proofs.Ytbjmmfoklnhiiaa
