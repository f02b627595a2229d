/- The walks of slices.Index, slices.Contains at int. Conditions: the bound on the length. -/
import Derived.Test.YtjflllfkgbhemaaV14
namespace Go.Proofs.Ytjflllfkgbhemaa
open Go.RowKit

set_option maxRecDepth 100000 in
set_option maxHeartbeats 2000000 in
theorem index_i (w : World) (u : Value) (l : List Int) (x : Int) (hu : Vw w u l) (hl : l.length ≤ 4194304) :
    Calls Try.prog 90 #[u, .int .i64 x] w fun en w' => (∃ n : Int, en = .returned (.int .i64 n) ∧ (0 ≤ n ↔ x ∈ l)) ∧ ∃ q, w' = w.drewN q := by
  obtain ⟨oa, ca, rfl, h1⟩ := hu
  have H1 := hide h1
  clear h1
  go_enter Try.func90, Try.ntmps90
  go_wp2
  go_loopw [8] (fun tx W => ∃ i : Nat, tx = .int .i64 (i : Int) ∧ i ≤ l.length ∧ x ∉ l.take i ∧ ∃ q, W = w.drewN q) (fun tx _ => l.length - (intOf tx).toNat)
  case atStart => exact ⟨0, rfl, Nat.zero_le _, by simp, 0, rfl⟩
  case round =>
    obtain ⟨i, rfl, hi, ht, q, rfl⟩ := hrel
    have HT := hide ht
    by_cases hlt : i < l.length
    · obtain ⟨y, hy⟩ : ∃ y, l[i]? = some y := ⟨_, List.getElem?_eq_getElem hlt⟩
      obtain ⟨g, rfl, hg, c1⟩ := H1.out i y hy
      have HY := hide hy
      clear ht hy hg
      by_cases hxy : x = y
      · subst hxy
        have hin : x ∈ l := List.mem_of_getElem? HY.out
        have HI := hide hin
        clear hin
        go_wp2
        all_goals try (go_quiet (fail); go_wp2)
        go_ret
        exact ⟨⟨_, rfl, by simp [HI.out]⟩, _, rfl⟩
      · have hyx : ¬ y = x := fun e => hxy e.symm
        go_wp2
        all_goals try (go_quiet (fail); go_wp2)
        go_roundw
        case rel =>
          refine ⟨i + 1, by go_num, by omega, ?_, _, rfl⟩
          rw [List.take_add_one, HY.out]
          intro hm
          rcases List.mem_append.1 hm with h | h
          · exact HT.out h
          · simp at h; exact hxy h
        case measure => simp [intOf]; omega
    · have hout : x ∉ l := by rw [← List.take_of_length_le (show l.length ≤ i from by omega)]; exact ht
      have HO := hide hout
      clear ht hout
      go_wp2
      go_ret
      exact ⟨⟨_, rfl, by simp [HO.out]⟩, _, rfl⟩
set_option maxRecDepth 100000 in
theorem contains_i (w : World) (u : Value) (l : List Int) (x : Int) (hu : Vw w u l) (hl : l.length ≤ 4194304) :
    Calls Try.prog 69 #[u, .int .i64 x] w fun en w' => en = .returned (.bool (decide (x ∈ l))) ∧ ∃ q, w' = w.drewN q := by
  have hix := index_i w u l x hu hl
  obtain ⟨oa, ca, rfl, _⟩ := hu
  have HX := hide hix
  clear hix
  by_cases hm : x ∈ l
  all_goals
    go_enter Try.func69, Try.ntmps69
    go_wp2_with (go_at_call 90
                 refine HX.out.mono ?_
                 rintro en w' ⟨⟨n, rfl, hn⟩, q, rfl⟩
                 simp only [hm, iff_true, iff_false, Int.not_le] at hn)
    go_ret
    refine ⟨?_, _, rfl⟩
    first
    | (simp [hm]; done)
    | (simp [hm]; omega)
end Go.Proofs.Ytjflllfkgbhemaa
