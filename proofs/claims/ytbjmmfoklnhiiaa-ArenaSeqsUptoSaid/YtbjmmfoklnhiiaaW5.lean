/- The walks of the arena's calls that only look, at int. Conditions: the bounds that are named. -/
import Derived.Test.YtbjmmfoklnhiiaaW4
namespace Go.Proofs.Ytbjmmfoklnhiiaa
open Go.RowKit

theorem holds_cases {α : Type} (s : ASt α) (n : Int) : s.holds n = 0 ∨ s.holds n = 1 ∨ s.holds n = 53 := by
  unfold ASt.holds; split
  · exact .inr (.inl rfl)
  · split
    · exact .inr (.inr rfl)
    · exact .inl rfl
theorem holds_ok {α : Type} {s : ASt α} {n : Int} (h : s.holds n = 0) : 0 ≤ n ∧ n < s.most ∧ n < s.made ∧ 0 ≤ s.LS n.toNat := by
  unfold ASt.holds at h
  split at h
  · cases h
  · split at h
    · cases h
    · omega
theorem isB_ok {α : Type} {s : ASt α} {l e : Int} (h : s.isB l e = true) : 0 ≤ l ∧ l < s.L ∧ (e = 0 ∨ e = 1) := by
  simp only [ASt.isB, isEndB, Bool.and_eq_true, decide_eq_true_eq] at h
  omega

section
variable (w : World) (f : Fp) (s : ASt Int) (h : AMem Ki w f s)
include h
theorem get_i (n : Int) : Calls Try.prog 29 #[.pointer (some ⟨f.ab, 0, none⟩), .int .i64 n] w fun en w' => en = .returned (.tuple #[.int .i64 (s.get 0 n), .int .i64 (s.holds n)]) ∧ w = w' := by
  have hc := holds_i w f s h n
  unfold ASt.get
  rcases holds_cases s n with hv | hv | hv <;> rw [hv] at hc ⊢
  · obtain ⟨h0, h1, h2, h3⟩ := holds_ok hv
    rw [if_pos rfl]
    obtain ⟨n, rfl⟩ := Int.eq_ofNat_of_zero_le h0
    simp only [Int.toNat_natCast] at *
    have h2' : n < s.made := by omega
    obtain ⟨cap, _, _, hnodes, _⟩ := h.nodes (by omega)
    obtain ⟨c1, _⟩ := node_i h h2'
    have HC := hide hc
    clear hc h hv
    go_enter Try.func29, Try.ntmps29
    go_wp2_with (go_at_call 50; refine HC.out.mono ?_; rintro en w' ⟨rfl, rfl⟩)
    go_ret2
    exact ⟨rfl, rfl⟩
  all_goals
    rw [if_neg (by decide)]
    have HC := hide hc
    clear hc h hv
    go_enter Try.func29, Try.ntmps29
    go_wp2_with (go_at_call 50; refine HC.out.mono ?_; rintro en w' ⟨rfl, rfl⟩)
    go_ret2
    exact ⟨rfl, rfl⟩

theorem list_i (n : Int) : Calls Try.prog 36 #[.pointer (some ⟨f.ab, 0, none⟩), .int .i64 n] w fun en w' => en = .returned (.tuple #[.int .i64 (s.listN n), .bool (s.listB n)]) ∧ w = w' := by
  have hc := holds_i w f s h n
  unfold ASt.listN ASt.listB
  rcases holds_cases s n with hv | hv | hv <;> rw [hv] at hc ⊢
  · obtain ⟨h0, h1, h2, h3⟩ := holds_ok hv
    rw [if_pos rfl, decide_eq_true rfl]
    obtain ⟨n, rfl⟩ := Int.eq_ofNat_of_zero_le h0
    simp only [Int.toNat_natCast] at *
    have h2' : n < s.made := by omega
    obtain ⟨cap, _, _, hnodes, _⟩ := h.nodes (by omega)
    obtain ⟨c1, c2, _⟩ := node_i h h2'
    have HC := hide hc
    clear hc h hv
    go_enter Try.func36, Try.ntmps36
    go_wp2_with (go_at_call 50; refine HC.out.mono ?_; rintro en w' ⟨rfl, rfl⟩)
    go_ret2
    exact ⟨rfl, rfl⟩
  all_goals
    rw [if_neg (by decide), decide_eq_false (by decide)]
    have HC := hide hc
    clear hc h hv
    go_enter Try.func36, Try.ntmps36
    go_wp2_with (go_at_call 50; refine HC.out.mono ?_; rintro en w' ⟨rfl, rfl⟩)
    go_ret2
    exact ⟨rfl, rfl⟩

theorem peek_i (l e : Int) : Calls Try.prog 35 #[.pointer (some ⟨f.ab, 0, none⟩), .int .i64 l, .int .i64 e] w fun en w' => en = .returned (.tuple #[.int .i64 (s.peekN l e), .bool (s.peekB l e)]) ∧ w = w' := by
  have hc := is_i w f s h l e
  unfold ASt.peekN ASt.peekB
  cases hv : s.isB l e <;> rw [hv] at hc
  · rw [if_neg (by decide), if_neg (by decide)]
    have HC := hide hc
    clear hc h hv
    go_enter Try.func35, Try.ntmps35
    go_wp2_with (go_at_call 51; refine HC.out.mono ?_; rintro en w' ⟨rfl, rfl⟩)
    go_ret2
    exact ⟨rfl, rfl⟩
  · obtain ⟨h0, h1, h2⟩ := isB_ok hv
    rw [if_pos rfl, if_pos rfl]
    obtain ⟨l, rfl⟩ := Int.eq_ofNat_of_zero_le h0
    simp only [Int.toNat_natCast] at *
    have h1' : l < s.L := by omega
    obtain ⟨lc, hlists⟩ := h.lists (by omega)
    obtain ⟨d1, d2, _⟩ := h.list h1'
    have HC := hide hc
    have ht0 := there_i w (s.E false l)
    have ht1 := there_i w (s.E true l)
    have HT0 := hide ht0
    have HT1 := hide ht1
    clear hc h hv ht0 ht1
    rcases h2 with rfl | rfl
    · go_enter Try.func35, Try.ntmps35
      go_wp2_with (first | (go_at_call 51; refine HC.out.mono ?_; rintro en w' ⟨rfl, rfl⟩) | (go_at_call 55; refine HT0.out.mono ?_; rintro en w' ⟨rfl, rfl⟩))
      go_ret2
      exact ⟨rfl, rfl⟩
    · go_enter Try.func35, Try.ntmps35
      go_wp2_with (first | (go_at_call 51; refine HC.out.mono ?_; rintro en w' ⟨rfl, rfl⟩) | (go_at_call 55; refine HT1.out.mono ?_; rintro en w' ⟨rfl, rfl⟩))
      go_ret2
      exact ⟨rfl, rfl⟩

theorem next_i (n e : Int) : Calls Try.prog 37 #[.pointer (some ⟨f.ab, 0, none⟩), .int .i64 n, .int .i64 e] w fun en w' => en = .returned (.tuple #[.int .i64 (s.nextN n e), .bool (s.nextB n e)]) ∧ w = w' := by
  have hc := holds_i w f s h n
  have hi := isEnd_i w e
  unfold ASt.nextN ASt.nextB
  rcases holds_cases s n with hv | hv | hv <;> rw [hv] at hc ⊢
  · obtain ⟨h0, h1, h2, h3⟩ := holds_ok hv
    obtain ⟨n, rfl⟩ := Int.eq_ofNat_of_zero_le h0
    simp only [Int.toNat_natCast] at *
    have h2' : n < s.made := by omega
    obtain ⟨cap, _, _, hnodes, _⟩ := h.nodes (by omega)
    obtain ⟨c1, c2, c3, c4, _⟩ := node_i h h2'
    cases hb : isEndB e <;> rw [hb] at hi
    · rw [if_neg (by decide), if_neg (by decide)]
      have HC := hide hc
      have HI := hide hi
      clear hc h hv hi hb
      go_enter Try.func37, Try.ntmps37
      go_wp2_with (first | (go_at_call 50; refine HC.out.mono ?_; rintro en w' ⟨rfl, rfl⟩) | (go_at_call 56; refine HI.out.mono ?_; rintro en w' ⟨rfl, rfl⟩))
      go_ret2
      exact ⟨rfl, rfl⟩
    · have he : e = 0 ∨ e = 1 := by simpa [isEndB] using hb
      rw [if_pos (by simp), if_pos (by simp)]
      have HC := hide hc
      have HI := hide hi
      have ht0 := there_i w (s.B false n)
      have ht1 := there_i w (s.B true n)
      have HT0 := hide ht0
      have HT1 := hide ht1
      clear hc h hv hi hb ht0 ht1
      rcases he with rfl | rfl
      · go_enter Try.func37, Try.ntmps37
        go_wp2_with (first | (go_at_call 50; refine HC.out.mono ?_; rintro en w' ⟨rfl, rfl⟩) | (go_at_call 56; refine HI.out.mono ?_; rintro en w' ⟨rfl, rfl⟩) | (go_at_call 55; refine HT0.out.mono ?_; rintro en w' ⟨rfl, rfl⟩))
        go_ret2
        exact ⟨rfl, rfl⟩
      · go_enter Try.func37, Try.ntmps37
        go_wp2_with (first | (go_at_call 50; refine HC.out.mono ?_; rintro en w' ⟨rfl, rfl⟩) | (go_at_call 56; refine HI.out.mono ?_; rintro en w' ⟨rfl, rfl⟩) | (go_at_call 55; refine HT1.out.mono ?_; rintro en w' ⟨rfl, rfl⟩))
        go_ret2
        exact ⟨rfl, rfl⟩
  all_goals
    rw [if_neg (by simp), if_neg (by simp)]
    have HC := hide hc
    clear hc h hv hi
    go_enter Try.func37, Try.ntmps37
    go_wp2_with (go_at_call 50; refine HC.out.mono ?_; rintro en w' ⟨rfl, rfl⟩)
    go_ret2
    exact ⟨rfl, rfl⟩

theorem len_i (l : Int) : Calls Try.prog 32 #[.pointer (some ⟨f.ab, 0, none⟩), .int .i64 l] w fun en w' => en = .returned (.int .i64 (s.len l)) ∧ w = w' := by
  have hc := is_i w f s h l 0
  unfold ASt.len
  cases hv : s.isB l 0 <;> rw [hv] at hc
  · rw [if_neg (by simp [ASt.isB, isEndB] at hv; omega)]
    have HC := hide hc
    clear hc h hv
    go_enter Try.func32, Try.ntmps32
    go_wp2_with (go_at_call 51; refine HC.out.mono ?_; rintro en w' ⟨rfl, rfl⟩)
    go_ret
    exact ⟨rfl, rfl⟩
  · obtain ⟨h0, h1, _⟩ := isB_ok hv
    rw [if_pos ⟨h0, h1⟩]
    obtain ⟨l, rfl⟩ := Int.eq_ofNat_of_zero_le h0
    simp only [Int.toNat_natCast] at *
    have h1' : l < s.L := by omega
    obtain ⟨lc, hlists⟩ := h.lists (by omega)
    obtain ⟨d1, d2, d3, _⟩ := h.list h1'
    have HC := hide hc
    clear hc h hv
    go_enter Try.func32, Try.ntmps32
    go_wp2_with (go_at_call 51; refine HC.out.mono ?_; rintro en w' ⟨rfl, rfl⟩)
    go_ret
    exact ⟨rfl, rfl⟩

theorem free_n_i (hu0 : 0 ≤ s.used) (hu : s.used ≤ s.most) (hm : s.most ≤ 4194304) : Calls Try.prog 20 #[.pointer (some ⟨f.ab, 0, none⟩)] w fun en w' => en = .returned (.int .i64 (s.most - s.used)) ∧ ∃ k, w' = w.drewN k := by
  obtain ⟨e1, e2, e3, _⟩ := h.head
  clear h
  go_enter Try.func20, Try.ntmps20
  go_wp2
  go_quiet (fail)
  go_wp2
  go_ret
  exact ⟨rfl, _, rfl⟩
end
end Go.Proofs.Ytbjmmfoklnhiiaa
