/- The walk of the arena's free at int. Conditions: the bounds that are named. -/
import Derived.Test.YtbjmmfoklnhiiaaW2
namespace Go.Proofs.Ytbjmmfoklnhiiaa
open Go.RowKit
section
variable {w : World} {f : Fp} {s : ASt Int}
theorem iV (h : AMem Ki w f s) {n : Nat} (hn : n < s.made) (x : Int) : AMem Ki (w.setCell ⟨f.gb, n * 4, none⟩ (.int .i64 x)) f (s.setV n x) :=
  h.setNode Ki_ok (j := 0) hn (by decide) _ _ rfl fun m => by
    by_cases e : m = n
    · subst e; simp [nodeRow, ASt.setV, upd, Ki]
    · simp [nodeRow, ASt.setV, upd, e]
theorem iB1' (h : AMem Ki w f s) {n : Nat} (hn : n < s.made) (x : Int) : AMem Ki (w.setCell ⟨f.gb, n * 4 + 3, none⟩ (.int .i64 x)) f (s.setB true n x) := h.setB1 Ki_ok hn x
theorem iFr (h : AMem Ki w f s) (x : Int) : AMem Ki (w.setCell ⟨f.ab, 3, none⟩ (.int .i64 x)) f (s.setFr x) := h.setFreed Ki_ok x
theorem iUs (h : AMem Ki w f s) (x : Int) : AMem Ki (w.setCell ⟨f.ab, 4, none⟩ (.int .i64 x)) f (s.setUs x) := h.setUsed Ki_ok x
end
set_option maxHeartbeats 1000000 in
theorem free_i (w : World) (f : Fp) (s : ASt Int) (h : AMem Ki w f s) (n : Int) (hn0 : 0 ≤ n) (hn : n < s.made) (hl0 : 0 ≤ s.LS n.toNat) (hl : s.LS n.toNat < s.L)
    (hB : ∀ e, -1 ≤ s.B e n.toNat ∧ s.B e n.toNat < s.made ∧ s.B e n.toNat ≠ n) (hC0 : 0 < s.CN (s.LS n.toNat).toNat) (hC : s.CN (s.LS n.toNat).toNat ≤ 4194304) (hmm : s.made ≤ 4194304)
    (hu0 : 0 < s.used) (hu : s.used ≤ 4194304) :
    Calls Try.prog 54 #[.pointer (some ⟨f.ab, 0, none⟩), .int .i64 n] w fun en w' => en = .returned (.int .i64 (s.V n.toNat)) ∧
      AMem Ki w' f (s.free 0 n.toNat) ∧ Only f.has w w' := by
  have hcut := cut_i w f s h n hn0 hn hl0 hl hB hC0 hC hmm
  obtain ⟨n, rfl⟩ := Int.eq_ofNat_of_zero_le hn0
  simp only [Int.toNat_natCast] at *
  have hn' : n < s.made := by omega
  have HC := hide hcut
  clear hcut hB
  go_enter Try.func54, Try.ntmps54
  go_wp2_with fail
  refine HC.out.mono ?_
  rintro e w1 ⟨rfl, hM, hO⟩
  have hnc : n < (s.cut n).made := by rw [cut_made]; exact hn'
  have hag := hM.ne_ag Ki_ok (by omega)
  have hga : ¬ f.gb = f.ab := fun e => hag e.symm
  obtain ⟨cap, _, _, hnodes, _⟩ := hM.nodes (by omega)
  rw [cut_made] at hnodes
  obtain ⟨c1, c2, c3, c4, g1, g2, g3, g4⟩ := node_i hM hnc
  obtain ⟨e1, e2, e3, e4, e5, e6⟩ := hM.head
  rw [cut_V] at c1
  rw [cut_freed] at e2
  rw [cut_used] at e3
  have HM := hide hM
  have HO := hide hO
  clear hM hO
  go_wp2
  go_region
  go_wp2
  go_ret
  refine ⟨rfl, ?_, ?_⟩
  · unfold ASt.free ASt.wipe
    rw [cut_freed]
    refine AMem.drew ?_
    refine iUs ?_ _
    refine iFr ?_ _
    refine iB1' ?_ (by exact hnc) _
    refine iB0 ?_ (by exact hnc) _
    refine iLS ?_ (by exact hnc) _
    exact iV HM.out hnc _
  · repeat (with_reducible first | exact HO.out | refine Only.drew ?_ | refine Only.setCell ?_ (.inl ?_) _)
    all_goals simp [Fp.has]
end Go.Proofs.Ytbjmmfoklnhiiaa
