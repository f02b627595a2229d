/- The walks of what looks at an arena of ints and of what asks first: is, holds, there. Conditions: the bounds that are named. -/
import Derived.Test.YtbjmmfoklnhiiaaW3
import Derived.Test.YtbjmmfoklnhiiaaOps2
namespace Go.Proofs.Ytbjmmfoklnhiiaa
open Go.RowKit

theorem isEnd_i (w : World) (e : Int) : Calls Try.prog 56 #[.int .i64 e] w fun en w' => en = .returned (.bool (isEndB e)) ∧ w = w' := by
  by_cases h0 : e = 0
  · subst h0
    go_enter Try.func56, Try.ntmps56
    go_wp2
    go_ret
    exact ⟨rfl, rfl⟩
  · have h0' : (e == 0) = false := beq_eq_false_iff_ne.2 h0
    by_cases h1 : e = 1
    · subst h1
      go_enter Try.func56, Try.ntmps56
      go_wp2
      go_ret
      exact ⟨rfl, rfl⟩
    · have h1' : (e == 1) = false := beq_eq_false_iff_ne.2 h1
      have hr : isEndB e = false := by simp [isEndB, h0, h1]
      rw [hr]
      clear hr
      go_enter Try.func56, Try.ntmps56
      go_wp2
      go_ret
      exact ⟨rfl, rfl⟩

theorem there_i (w : World) (n : Int) : Calls Try.prog 55 #[.int .i64 n] w fun en w' => en = .returned (.tuple #[.int .i64 (max n 0), .bool (decide (0 ≤ n))]) ∧ w = w' := by
  by_cases h0 : 0 ≤ n
  · rw [show max n 0 = n from by omega, decide_eq_true h0]
    go_enter Try.func55, Try.ntmps55
    go_wp2
    go_ret2
    exact ⟨rfl, rfl⟩
  · rw [show max n 0 = 0 from by omega, decide_eq_false h0]
    go_enter Try.func55, Try.ntmps55
    go_wp2
    go_ret2
    exact ⟨rfl, rfl⟩

theorem is_i (w : World) (f : Fp) (s : ASt Int) (h : AMem Ki w f s) (l e : Int) :
    Calls Try.prog 51 #[.pointer (some ⟨f.ab, 0, none⟩), .int .i64 l, .int .i64 e] w fun en w' => en = .returned (.bool (s.isB l e)) ∧ w = w' := by
  obtain ⟨la, lc, hlists⟩ := h.listsLen
  have hie := isEnd_i w e
  have HE := hide hie
  clear hie
  by_cases h0 : 0 ≤ l
  · by_cases h1 : l < s.L
    · have hr : s.isB l e = isEndB e := by simp [ASt.isB, h0, h1]
      rw [hr]
      clear hr h
      go_enter Try.func51, Try.ntmps51
      go_wp2_with (go_at_call 56; refine HE.out.mono ?_; rintro en w' ⟨rfl, rfl⟩)
      go_ret
      exact ⟨rfl, rfl⟩
    · have hr : s.isB l e = false := by simp [ASt.isB, h1]
      rw [hr]
      clear hr h
      go_enter Try.func51, Try.ntmps51
      go_wp2
      go_ret
      exact ⟨rfl, rfl⟩
  · have hr : s.isB l e = false := by simp [ASt.isB, h0]
    rw [hr]
    clear hr h
    go_enter Try.func51, Try.ntmps51
    go_wp2
    go_ret
    exact ⟨rfl, rfl⟩

theorem holds_i (w : World) (f : Fp) (s : ASt Int) (h : AMem Ki w f s) (n : Int) :
    Calls Try.prog 50 #[.pointer (some ⟨f.ab, 0, none⟩), .int .i64 n] w fun en w' => en = .returned (.int .i64 (s.holds n)) ∧ w = w' := by
  obtain ⟨a, cap, hnodes⟩ := h.nodesLen
  obtain ⟨e1, _⟩ := h.head
  by_cases h0 : 0 ≤ n
  · by_cases h1 : n < s.most
    · by_cases h2 : n < s.made
      · obtain ⟨n, rfl⟩ := Int.eq_ofNat_of_zero_le h0
        have h2' : n < s.made := by omega
        obtain ⟨cap', _, _, hnodes', _⟩ := h.nodes (by omega)
        obtain ⟨_, c2, _⟩ := node_i h h2'
        rw [hnodes'] at hnodes
        by_cases h3 : 0 ≤ s.LS n
        · have hr : s.holds n = 0 := by unfold ASt.holds; rw [if_neg (by omega), if_neg (by simp; omega)]
          rw [hr]
          clear hr h hnodes
          go_enter Try.func50, Try.ntmps50
          go_wp2
          go_ret
          exact ⟨rfl, rfl⟩
        · have hr : s.holds n = 53 := by unfold ASt.holds; rw [if_neg (by omega), if_pos (by simp; omega)]
          rw [hr]
          clear hr h hnodes
          go_enter Try.func50, Try.ntmps50
          go_wp2
          go_ret
          exact ⟨rfl, rfl⟩
      · have hr : s.holds n = 53 := by unfold ASt.holds; rw [if_neg (by omega), if_pos (by omega)]
        rw [hr]
        clear hr h
        go_enter Try.func50, Try.ntmps50
        go_wp2
        go_ret
        exact ⟨rfl, rfl⟩
    · have hr : s.holds n = 1 := by unfold ASt.holds; rw [if_pos (by omega)]
      rw [hr]
      clear hr h
      go_enter Try.func50, Try.ntmps50
      go_wp2
      go_ret
      exact ⟨rfl, rfl⟩
  · have hr : s.holds n = 1 := by unfold ASt.holds; rw [if_pos (by omega)]
    rw [hr]
    clear hr h
    go_enter Try.func50, Try.ntmps50
    go_wp2
    go_ret
    exact ⟨rfl, rfl⟩
end Go.Proofs.Ytbjmmfoklnhiiaa
