/- The walks of the arena's calls that change it, at int: Set, Unlink, Pop, Move. Conditions: the bounds that are named. -/
import Derived.Test.YtbjmmfoklnhiiaaW5
import Derived.Test.YtbjmmfoklnhiiaaBd
namespace Go.Proofs.Ytbjmmfoklnhiiaa
open Go.RowKit

section
variable (w : World) (f : Fp) (s : ASt Int) (h : AMem Ki w f s) (hb : s.Bd)
include h
theorem set_i (n v : Int) : Calls Try.prog 34 #[.pointer (some ⟨f.ab, 0, none⟩), .int .i64 n, .int .i64 v] w fun en w' => en = .returned (.int .i64 (s.holds n)) ∧ AMem Ki w' f (s.set n v) ∧ Only f.has w w' := by
  have hc := holds_i w f s h n
  unfold ASt.set
  rcases holds_cases s n with hv | hv | hv <;> rw [hv] at hc ⊢
  · obtain ⟨h0, h1, h2, h3⟩ := holds_ok hv
    rw [if_pos rfl]
    obtain ⟨n, rfl⟩ := Int.eq_ofNat_of_zero_le h0
    simp only [Int.toNat_natCast] at *
    have h2' : n < s.made := by omega
    obtain ⟨cap, _, _, hnodes, _⟩ := h.nodes (by omega)
    obtain ⟨c1, _, _, _, g1, _⟩ := node_i h h2'
    have HC := hide hc
    have HM := hide h
    clear hc h hv
    go_enter Try.func34, Try.ntmps34
    go_wp2_with (go_at_call 50; refine HC.out.mono ?_; rintro en w' ⟨rfl, rfl⟩)
    go_ret
    exact ⟨rfl, iV HM.out h2' _, (Only.refl _ _).setCell (.inl (by simp [Fp.has])) _⟩
  all_goals
    rw [if_neg (by decide)]
    have HC := hide hc
    have HM := hide h
    clear hc h hv
    go_enter Try.func34, Try.ntmps34
    go_wp2_with (go_at_call 50; refine HC.out.mono ?_; rintro en w' ⟨rfl, rfl⟩)
    go_ret
    exact ⟨rfl, HM.out, Only.refl _ _⟩
include hb
theorem unlink_i (n : Int) : Calls Try.prog 24 #[.pointer (some ⟨f.ab, 0, none⟩), .int .i64 n] w fun en w' => en = .returned (.tuple #[.int .i64 (s.get 0 n), .int .i64 (s.holds n)]) ∧
    AMem Ki w' f (s.unlink 0 n) ∧ Only f.has w w' := by
  have hc := holds_i w f s h n
  unfold ASt.unlink ASt.get
  rcases holds_cases s n with hv | hv | hv <;> rw [hv] at hc ⊢
  · obtain ⟨h0, h1, h2, h3⟩ := holds_ok hv
    rw [if_pos rfl, if_pos rfl]
    have hf := free_i w f s h n h0 h2 h3 (hb.inL hv) (hb.inB hv) (hb.inC hv).1 (hb.inC hv).2 hb.made22 (hb.inU hv) hb.used22
    have HC := hide hc
    have HF := hide hf
    clear hc h hv hf hb
    go_enter Try.func24, Try.ntmps24
    go_wp2_with (first | (go_at_call 50; refine HC.out.mono ?_; rintro en w' ⟨rfl, rfl⟩) | (go_at_call 54; refine HF.out.mono ?_; rintro en w' ⟨rfl, hM, hO⟩))
    go_ret2
    exact ⟨rfl, hM, hO⟩
  all_goals
    rw [if_neg (by decide), if_neg (by decide)]
    have HC := hide hc
    have HM := hide h
    clear hc h hv hb
    go_enter Try.func24, Try.ntmps24
    go_wp2_with (go_at_call 50; refine HC.out.mono ?_; rintro en w' ⟨rfl, rfl⟩)
    go_ret2
    exact ⟨rfl, HM.out, Only.refl _ _⟩

theorem pop_i (l e : Int) : Calls Try.prog 33 #[.pointer (some ⟨f.ab, 0, none⟩), .int .i64 l, .int .i64 e] w fun en w' => en = .returned (.tuple #[.int .i64 (s.popV 0 l e), .int .i64 (s.popE l e)]) ∧
    AMem Ki w' f (s.pop 0 l e) ∧ Only f.has w w' := by
  have hc := is_i w f s h l e
  cases hv : s.isB l e <;> rw [hv] at hc
  · have hr : s.popE l e = 1 := by unfold ASt.popE; rw [if_pos hv]
    unfold ASt.popV ASt.pop
    rw [hr, if_neg (by decide), if_neg (by decide)]
    have HC := hide hc
    have HM := hide h
    clear hc h hv hb hr
    go_enter Try.func33, Try.ntmps33
    go_wp2_with (go_at_call 51; refine HC.out.mono ?_; rintro en w' ⟨rfl, rfl⟩)
    go_ret2
    exact ⟨rfl, HM.out, Only.refl _ _⟩
  · obtain ⟨h0, h1, h2⟩ := isB_ok hv
    obtain ⟨l, rfl⟩ := Int.eq_ofNat_of_zero_le h0
    have h1' : l < s.L := by omega
    obtain ⟨lc, hlists⟩ := h.lists (by omega)
    obtain ⟨d1, d2, _⟩ := h.list h1'
    have hd : ∀ E : Int, s.E (eB e) l = E → w.cell? ⟨f.lb, l * 3 + e.toNat, none⟩ = some (.int .i64 E) := by
      rintro E rfl
      rcases h2 with rfl | rfl
      · exact d1
      · exact d2
    have HC := hide hc
    by_cases hE : 0 ≤ s.E (eB e) l
    · have hr : s.popE l e = 0 := by unfold ASt.popE; rw [if_neg (by rw [hv]; decide), if_neg (by simp; omega)]
      have he := hb.ends (eB e) h1'
      obtain ⟨n, hn⟩ := Int.eq_ofNat_of_zero_le hE
      have hh : s.holds n = 0 := by rw [← hn]; exact he.2.2 hE
      have hf := fun w' hw => free_i w' f s hw n (by omega) (by omega) (holds_ok hh).2.2.2 (hb.inL hh) (hb.inB hh) (hb.inC hh).1 (hb.inC hh).2 hb.made22 (hb.inU hh) hb.used22
      unfold ASt.popV ASt.pop
      rw [hr, if_pos rfl, if_pos rfl, Int.toNat_natCast, hn]
      have hd' := hd n hn
      have HF := hide (hf w h)
      clear hc h hv hb hr hE he hh hn hf hd d1 d2
      rcases h2 with rfl | rfl
      · simp only [Int.toNat_zero, Nat.add_zero] at hd'
        go_enter Try.func33, Try.ntmps33
        go_wp2_with (first | (go_at_call 51; refine HC.out.mono ?_; rintro en w' ⟨rfl, rfl⟩) | (go_at_call 54; refine HF.out.mono ?_; rintro en w' ⟨rfl, hM, hO⟩))
        go_ret2
        exact ⟨rfl, hM, hO⟩
      · simp only [Int.toNat_one] at hd'
        go_enter Try.func33, Try.ntmps33
        go_wp2_with (first | (go_at_call 51; refine HC.out.mono ?_; rintro en w' ⟨rfl, rfl⟩) | (go_at_call 54; refine HF.out.mono ?_; rintro en w' ⟨rfl, hM, hO⟩))
        go_ret2
        exact ⟨rfl, hM, hO⟩
    · have hr : s.popE l e = 52 := by unfold ASt.popE; rw [if_neg (by rw [hv]; decide), if_pos (by simp; omega)]
      unfold ASt.popV ASt.pop
      rw [hr, if_neg (by decide), if_neg (by decide)]
      have hd' := hd _ rfl
      have HM := hide h
      clear hc h hv hb hr hd d1 d2
      rcases h2 with rfl | rfl
      · simp only [Int.toNat_zero, Nat.add_zero] at hd'
        go_enter Try.func33, Try.ntmps33
        go_wp2_with (go_at_call 51; refine HC.out.mono ?_; rintro en w' ⟨rfl, rfl⟩)
        go_ret2
        exact ⟨rfl, HM.out, Only.refl _ _⟩
      · simp only [Int.toNat_one] at hd'
        go_enter Try.func33, Try.ntmps33
        go_wp2_with (go_at_call 51; refine HC.out.mono ?_; rintro en w' ⟨rfl, rfl⟩)
        go_ret2
        exact ⟨rfl, HM.out, Only.refl _ _⟩
end
end Go.Proofs.Ytbjmmfoklnhiiaa
