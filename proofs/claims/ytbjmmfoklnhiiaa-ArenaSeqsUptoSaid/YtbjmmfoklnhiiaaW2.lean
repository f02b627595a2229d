/- The walk of the arena's cut at int. Conditions: the bounds that are named. -/
import Derived.Test.YtbjmmfoklnhiiaaW1
import Derived.LoopN
namespace Go.Proofs.Ytbjmmfoklnhiiaa
open Go.RowKit
theorem ix0 (a b : Int) : ∀ w, (Instr.index 71 (.agg #[.int .i64 a, .int .i64 b]) (.int .i64 0)).run Try.prog w = .ok (.int .i64 a) w := fun _ => by kernel_rfl
theorem ix1 (a b : Int) : ∀ w, (Instr.index 71 (.agg #[.int .i64 a, .int .i64 b]) (.int .i64 1)).run Try.prog w = .ok (.int .i64 b) w := fun _ => by kernel_rfl
set_option maxHeartbeats 1000000 in
theorem cut_i (w : World) (f : Fp) (s : ASt Int) (h : AMem Ki w f s) (n : Int) (hn0 : 0 ≤ n) (hn : n < s.made) (hl0 : 0 ≤ s.LS n.toNat) (hl : s.LS n.toNat < s.L)
    (hB : ∀ e, -1 ≤ s.B e n.toNat ∧ s.B e n.toNat < s.made ∧ s.B e n.toNat ≠ n) (hC0 : 0 < s.CN (s.LS n.toNat).toNat) (hC : s.CN (s.LS n.toNat).toNat ≤ 4194304) (hmm : s.made ≤ 4194304) :
    Calls Try.prog 52 #[.pointer (some ⟨f.ab, 0, none⟩), .int .i64 n] w fun en w' => en = .returned (.tuple #[]) ∧
      AMem Ki w' f (s.cut n.toNat) ∧ Only f.has w w' := by
  obtain ⟨n, rfl⟩ := Int.eq_ofNat_of_zero_le hn0
  simp only [Int.toNat_natCast] at *
  obtain ⟨l, hl1⟩ := Int.eq_ofNat_of_zero_le hl0
  have hn' : n < s.made := by omega
  have hl' : l < s.L := by omega
  rw [hl1, Int.toNat_natCast] at hC0 hC
  have hag := h.ne_ag Ki_ok (by omega)
  have hal := h.ne_al Ki_ok (by omega)
  have hgl := h.ne_gl Ki_ok (by omega) (by omega)
  have hga : ¬ f.gb = f.ab := fun e => hag e.symm
  have hla : ¬ f.lb = f.ab := fun e => hal e.symm
  have hlg : ¬ f.lb = f.gb := fun e => hgl e.symm
  obtain ⟨cap, _, _, hnodes, _⟩ := h.nodes (by omega)
  obtain ⟨lc, hlists⟩ := h.lists (by omega)
  obtain ⟨c1, c2, c3, c4, g1, g2, g3, g4⟩ := node_i h hn'
  obtain ⟨d1, d2, d3, k1, k2, k3⟩ := h.list hl'
  rw [hl1] at c2
  have x0 := ix0 (s.B false n) (s.B true n)
  have x1 := ix1 (s.B false n) (s.B true n)
  have HL := hide hl1
  have HB := hide hB
  have HM := hide h
  clear hl1 hl0 hl h hB
  by_cases hlt : 0 ≤ s.B false n
  · have HX := hide hlt
    obtain ⟨m0, hm0⟩ := Int.eq_ofNat_of_zero_le hlt
    have hm0' : m0 < s.made := by have := (HB.out false).2.1; omega
    obtain ⟨a1, a2, a3, a4, b1, b2, b3, b4⟩ := node_i HM.out hm0'
    have q1 : ¬ n = m0 := by have := (HB.out false).2.2; omega
    have q2 : ¬ m0 = n := by omega
    have q3 : ¬ n * 4 = m0 * 4 + 1 := by omega
    have q4 : ¬ n * 4 + 1 = m0 * 4 := by omega
    have q5 : ¬ m0 * 4 = n * 4 + 1 := by omega
    have q6 : ¬ m0 * 4 + 1 = n * 4 := by omega
    rw [hm0] at c3 x0 x1
    have HX1 := hide hm0
    clear hm0 hlt
    by_cases hlt : 0 ≤ s.B true n
    · have HY := hide hlt
      obtain ⟨m1, hm1⟩ := Int.eq_ofNat_of_zero_le hlt
      have hm1' : m1 < s.made := by have := (HB.out true).2.1; omega
      obtain ⟨a5, a6, a7, a8, b5, b6, b7, b8⟩ := node_i HM.out hm1'
      have r1 : ¬ n = m1 := by have := (HB.out true).2.2; omega
      have r2 : ¬ m1 = n := by omega
      have r3 : ¬ n * 4 = m1 * 4 + 1 := by omega
      have r4 : ¬ n * 4 + 1 = m1 * 4 := by omega
      have r5 : ¬ m1 * 4 = n * 4 + 1 := by omega
      have r6 : ¬ m1 * 4 + 1 = n * 4 := by omega
      rw [hm1] at c4 x0 x1
      have HY1 := hide hm1
      clear hm1 hlt
      go_enter Try.func52, Try.ntmps52
      go_wp2
      go_quiet (fail)
      go_wp2
      refine wp_loop_rounds 3 ?_
      rw [rounds_succ]
      go_wp2
      go_region
      go_wp2
      rw [rounds_succ]
      go_wp2
      go_region
      go_wp2
      rw [rounds_succ]
      go_wp2
      go_end0
      refine ⟨rfl, ?_, ?_⟩
      · unfold ASt.cut ASt.cutA ASt.cutB
        rw [HL.out, Int.toNat_natCast, if_neg (Int.not_lt.2 HX.out), HX1.out, Int.toNat_natCast, if_neg (Int.not_lt.2 HY.out), HY1.out, Int.toNat_natCast]
        refine AMem.drew ?_
        refine iC ?_ (by exact hl') _
        refine iB0 ?_ (by exact hm1') _
        refine iB1 ?_ (by exact hm0') _
        exact HM.out.drewN _
      · repeat (with_reducible first | exact Only.refl _ _ | refine Only.drew ?_ | refine Only.setCell ?_ (.inl ?_) _ | exact (Only.refl _ _).drewN _)
        all_goals simp [Fp.has]
    · have HY := hide (show s.B true n < 0 by omega)
      have hy := HY.out
      clear hlt
      go_enter Try.func52, Try.ntmps52
      go_wp2
      go_quiet (fail)
      go_wp2
      refine wp_loop_rounds 3 ?_
      rw [rounds_succ]
      go_wp2
      go_region
      go_wp2
      rw [rounds_succ]
      go_wp2
      go_region
      go_wp2
      rw [rounds_succ]
      go_wp2
      go_end0
      refine ⟨rfl, ?_, ?_⟩
      · unfold ASt.cut ASt.cutA ASt.cutB
        rw [HL.out, Int.toNat_natCast, if_neg (Int.not_lt.2 HX.out), HX1.out, Int.toNat_natCast, if_pos HY.out]
        refine AMem.drew ?_
        refine iC ?_ (by exact hl') _
        refine iE1 ?_ (by exact hl') _
        refine iB1 ?_ (by exact hm0') _
        exact HM.out.drewN _
      · repeat (with_reducible first | exact Only.refl _ _ | refine Only.drew ?_ | refine Only.setCell ?_ (.inl ?_) _ | exact (Only.refl _ _).drewN _)
        all_goals simp [Fp.has]
  · have HX := hide (show s.B false n < 0 by omega)
    have hx := HX.out
    clear hlt
    by_cases hlt : 0 ≤ s.B true n
    · have HY := hide hlt
      obtain ⟨m1, hm1⟩ := Int.eq_ofNat_of_zero_le hlt
      have hm1' : m1 < s.made := by have := (HB.out true).2.1; omega
      obtain ⟨a5, a6, a7, a8, b5, b6, b7, b8⟩ := node_i HM.out hm1'
      have r1 : ¬ n = m1 := by have := (HB.out true).2.2; omega
      have r2 : ¬ m1 = n := by omega
      have r3 : ¬ n * 4 = m1 * 4 + 1 := by omega
      have r4 : ¬ n * 4 + 1 = m1 * 4 := by omega
      have r5 : ¬ m1 * 4 = n * 4 + 1 := by omega
      have r6 : ¬ m1 * 4 + 1 = n * 4 := by omega
      rw [hm1] at c4 x0 x1
      have HY1 := hide hm1
      clear hm1 hlt
      go_enter Try.func52, Try.ntmps52
      go_wp2
      go_quiet (fail)
      go_wp2
      refine wp_loop_rounds 3 ?_
      rw [rounds_succ]
      go_wp2
      go_region
      go_wp2
      rw [rounds_succ]
      go_wp2
      go_region
      go_wp2
      rw [rounds_succ]
      go_wp2
      go_end0
      refine ⟨rfl, ?_, ?_⟩
      · unfold ASt.cut ASt.cutA ASt.cutB
        rw [HL.out, Int.toNat_natCast, if_pos HX.out, if_neg (Int.not_lt.2 HY.out), HY1.out, Int.toNat_natCast]
        refine AMem.drew ?_
        refine iC ?_ (by exact hl') _
        refine iB0 ?_ (by exact hm1') _
        refine iE0 ?_ (by exact hl') _
        exact HM.out.drewN _
      · repeat (with_reducible first | exact Only.refl _ _ | refine Only.drew ?_ | refine Only.setCell ?_ (.inl ?_) _ | exact (Only.refl _ _).drewN _)
        all_goals simp [Fp.has]
    · have HY := hide (show s.B true n < 0 by omega)
      have hy := HY.out
      clear hlt
      go_enter Try.func52, Try.ntmps52
      go_wp2
      go_quiet (fail)
      go_wp2
      refine wp_loop_rounds 3 ?_
      rw [rounds_succ]
      go_wp2
      go_region
      go_wp2
      rw [rounds_succ]
      go_wp2
      go_region
      go_wp2
      rw [rounds_succ]
      go_wp2
      go_end0
      refine ⟨rfl, ?_, ?_⟩
      · unfold ASt.cut ASt.cutA ASt.cutB
        rw [HL.out, Int.toNat_natCast, if_pos HX.out, if_pos HY.out]
        refine AMem.drew ?_
        refine iC ?_ (by exact hl') _
        refine iE1 ?_ (by exact hl') _
        refine iE0 ?_ (by exact hl') _
        exact HM.out.drewN _
      · repeat (with_reducible first | exact Only.refl _ _ | refine Only.drew ?_ | refine Only.setCell ?_ (.inl ?_) _ | exact (Only.refl _ _).drewN _)
        all_goals simp [Fp.has]
end Go.Proofs.Ytbjmmfoklnhiiaa
