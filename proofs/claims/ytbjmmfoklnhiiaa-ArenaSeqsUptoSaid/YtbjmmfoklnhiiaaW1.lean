/- The walks of the arena's inner functions at int: link. Conditions: the bounds that are named. -/
import Derived.Test.YtbjmmfoklnhiiaaProg
import Derived.WalkKit
import Derived.RegionTactic
import Derived.ChangeAlike
import Derived.BigQuiet
import Derived.Outline
import Derived.Test.YtbjmmfoklnhiiaaOps
namespace Go.Proofs.Ytbjmmfoklnhiiaa
open Go.RowKit

/-- the arena of ints -/
def Ki : Kn Int := { tA := 77, tN := 73, tL := 99, vw := 1, enc := fun x => [.int .i64 x] }
theorem Ki_ok : Ki.ok := ⟨fun _ => rfl, by decide, by decide, by decide⟩

theorem node_i {w : World} {f : Fp} {s : ASt Int} (h : AMem Ki w f s) {n : Nat} (hn : n < s.made) :
    w.cell? ⟨f.gb, n * 4, none⟩ = some (.int .i64 (s.V n)) ∧ w.cell? ⟨f.gb, n * 4 + 1, none⟩ = some (.int .i64 (s.LS n)) ∧
    w.cell? ⟨f.gb, n * 4 + 2, none⟩ = some (.int .i64 (s.B false n)) ∧ w.cell? ⟨f.gb, n * 4 + 2 + 1, none⟩ = some (.int .i64 (s.B true n)) ∧
    w.frozen? ⟨f.gb, n * 4, none⟩ = false ∧ w.frozen? ⟨f.gb, n * 4 + 1, none⟩ = false ∧ w.frozen? ⟨f.gb, n * 4 + 2, none⟩ = false ∧ w.frozen? ⟨f.gb, n * 4 + 2 + 1, none⟩ = false := by
  obtain ⟨h1, h2, h3, h4, h5⟩ := h.node Ki_ok hn
  exact ⟨h1 0 (by decide), h2, h3, h4, h5 _, h5 _, h5 _, h5 _⟩

section
variable {w : World} {f : Fp} {s : ASt Int}
theorem iLS (h : AMem Ki w f s) {n : Nat} (hn : n < s.made) (x : Int) : AMem Ki (w.setCell ⟨f.gb, n * 4 + 1, none⟩ (.int .i64 x)) f (s.setLS n x) := h.setLS Ki_ok hn x
theorem iB0 (h : AMem Ki w f s) {n : Nat} (hn : n < s.made) (x : Int) : AMem Ki (w.setCell ⟨f.gb, n * 4 + 2, none⟩ (.int .i64 x)) f (s.setB false n x) := h.setB0 Ki_ok hn x
theorem iB1 (h : AMem Ki w f s) {n : Nat} (hn : n < s.made) (x : Int) : AMem Ki (w.setCell ⟨f.gb, n * 4 + 2 + 1, none⟩ (.int .i64 x)) f (s.setB true n x) := h.setB1 Ki_ok hn x
theorem iE0 (h : AMem Ki w f s) {l : Nat} (hl : l < s.L) (x : Int) : AMem Ki (w.setCell ⟨f.lb, l * 3, none⟩ (.int .i64 x)) f (s.setE false l x) := h.setE0 Ki_ok hl x
theorem iE1 (h : AMem Ki w f s) {l : Nat} (hl : l < s.L) (x : Int) : AMem Ki (w.setCell ⟨f.lb, l * 3 + 1, none⟩ (.int .i64 x)) f (s.setE true l x) := h.setE1 Ki_ok hl x
theorem iC (h : AMem Ki w f s) {l : Nat} (hl : l < s.L) (x : Int) : AMem Ki (w.setCell ⟨f.lb, l * 3 + 2, none⟩ (.int .i64 x)) f (s.setC l x) := h.setC Ki_ok hl x
end

set_option maxHeartbeats 1000000 in
theorem link_i (w : World) (f : Fp) (s : ASt Int) (h : AMem Ki w f s) (n l : Int) (e : Bool) (hn0 : 0 ≤ n) (hn : n < s.made) (hl0 : 0 ≤ l) (hl : l < s.L)
    (hE0 : -1 ≤ s.E e l.toNat) (hE : s.E e l.toNat < s.made) (hC0 : 0 ≤ s.CN l.toNat) (hC : s.CN l.toNat ≤ 4194304) (hmm : s.made ≤ 4194304) (hne : ¬ s.E e l.toNat = n) :
    Calls Try.prog 53 #[.pointer (some ⟨f.ab, 0, none⟩), .int .i64 n, .int .i64 l, .int .i64 (eI e)] w fun en w' => en = .returned (.tuple #[]) ∧
      AMem Ki w' f (s.link n.toNat l.toNat e) ∧ Only f.has w w' := by
  obtain ⟨n, rfl⟩ := Int.eq_ofNat_of_zero_le hn0
  obtain ⟨l, rfl⟩ := Int.eq_ofNat_of_zero_le hl0
  simp only [Int.toNat_natCast] at *
  have hn' : n < s.made := by omega
  have hl' : l < s.L := by omega
  have hag := h.ne_ag Ki_ok (by omega)
  have hal := h.ne_al Ki_ok (by omega)
  have hgl := h.ne_gl Ki_ok (by omega) (by omega)
  have hga : ¬ f.gb = f.ab := fun e => hag e.symm
  have hla : ¬ f.lb = f.ab := fun e => hal e.symm
  have hlg : ¬ f.lb = f.gb := fun e => hgl e.symm
  obtain ⟨cap, _, _, hnodes, _⟩ := h.nodes (by omega)
  obtain ⟨lc, hlists⟩ := h.lists (by omega)
  obtain ⟨c1, c2, c3, c4, g1, g2, g3, g4⟩ := node_i h hn'
  obtain ⟨d1, d2, d3, k1, k2, k3⟩ := h.list hl'
  cases e
  · by_cases hlt : 0 ≤ s.E false l
    · obtain ⟨m, hm⟩ := Int.eq_ofNat_of_zero_le hlt
      have hm' : m < s.made := by omega
      obtain ⟨a1, a2, a3, a4, b1, b2, b3, b4⟩ := node_i h hm'
      rw [hm] at d1
      have q1 : ¬ n = m := by omega
      have q2 : ¬ m = n := by omega
      have q3 : ¬ n * 4 = m * 4 + 1 := by omega
      have q4 : ¬ n * 4 + 1 = m * 4 := by omega
      have q5 : ¬ m * 4 = n * 4 + 1 := by omega
      have q6 : ¬ m * 4 + 1 = n * 4 := by omega
      have HM := hide h
      have HE := hide hm
      have HT := hide hlt
      clear h hm hE0 hE hne
      go_enter Try.func53, Try.ntmps53
      simp only [eI]
      go_wp2
      go_region
      go_wp2
      go_end0
      refine ⟨rfl, ?_, ?_⟩
      · unfold ASt.link
        rw [if_pos HT.out, HE.out, Int.toNat_natCast]
        simp only [Bool.not_false]
        refine AMem.drew ?_
        refine iC ?_ (by exact hl') _
        refine iE0 ?_ (by exact hl') _
        refine iB0 ?_ (by exact hm') _
        refine iB1 ?_ (by exact hn') _
        refine iB0 ?_ (by exact hn') _
        exact iLS HM.out hn' _
      · repeat (with_reducible first | exact Only.refl _ _ | refine Only.drew ?_ | refine Only.setCell ?_ (.inl ?_) _)
        all_goals simp [Fp.has]
    · have HM := hide h
      have HT := hide hlt
      clear h
      go_enter Try.func53, Try.ntmps53
      simp only [eI]
      go_wp2
      go_region
      go_wp2
      go_end0
      refine ⟨rfl, ?_, ?_⟩
      · unfold ASt.link
        rw [if_neg (Int.not_le.2 HT.out)]
        simp only [Bool.not_false]
        refine AMem.drew ?_
        refine iC ?_ (by exact hl') _
        refine iE0 ?_ (by exact hl') _
        refine iE1 ?_ (by exact hl') _
        refine iB1 ?_ (by exact hn') _
        refine iB0 ?_ (by exact hn') _
        exact iLS HM.out hn' _
      · repeat (with_reducible first | exact Only.refl _ _ | refine Only.drew ?_ | refine Only.setCell ?_ (.inl ?_) _)
        all_goals simp [Fp.has]
  · by_cases hlt : 0 ≤ s.E true l
    · obtain ⟨m, hm⟩ := Int.eq_ofNat_of_zero_le hlt
      have hm' : m < s.made := by omega
      obtain ⟨a1, a2, a3, a4, b1, b2, b3, b4⟩ := node_i h hm'
      rw [hm] at d2
      have q1 : ¬ n = m := by omega
      have q2 : ¬ m = n := by omega
      have q3 : ¬ n * 4 = m * 4 + 1 := by omega
      have q4 : ¬ n * 4 + 1 = m * 4 := by omega
      have q5 : ¬ m * 4 = n * 4 + 1 := by omega
      have q6 : ¬ m * 4 + 1 = n * 4 := by omega
      have HM := hide h
      have HE := hide hm
      have HT := hide hlt
      clear h hm hE0 hE hne
      go_enter Try.func53, Try.ntmps53
      simp only [eI]
      go_wp2
      go_region
      go_wp2
      go_end0
      refine ⟨rfl, ?_, ?_⟩
      · unfold ASt.link
        rw [if_pos HT.out, HE.out, Int.toNat_natCast]
        simp only [Bool.not_true]
        refine AMem.drew ?_
        refine iC ?_ (by exact hl') _
        refine iE1 ?_ (by exact hl') _
        refine iB1 ?_ (by exact hm') _
        refine iB0 ?_ (by exact hn') _
        refine iB1 ?_ (by exact hn') _
        exact iLS HM.out hn' _
      · repeat (with_reducible first | exact Only.refl _ _ | refine Only.drew ?_ | refine Only.setCell ?_ (.inl ?_) _)
        all_goals simp [Fp.has]
    · have HM := hide h
      have HT := hide hlt
      clear h
      go_enter Try.func53, Try.ntmps53
      simp only [eI]
      go_wp2
      go_region
      go_wp2
      go_end0
      refine ⟨rfl, ?_, ?_⟩
      · unfold ASt.link
        rw [if_neg (Int.not_le.2 HT.out)]
        simp only [Bool.not_true]
        refine AMem.drew ?_
        refine iC ?_ (by exact hl') _
        refine iE1 ?_ (by exact hl') _
        refine iE0 ?_ (by exact hl') _
        refine iB0 ?_ (by exact hn') _
        refine iB1 ?_ (by exact hn') _
        exact iLS HM.out hn' _
      · repeat (with_reducible first | exact Only.refl _ _ | refine Only.drew ?_ | refine Only.setCell ?_ (.inl ?_) _)
        all_goals simp [Fp.has]
end Go.Proofs.Ytbjmmfoklnhiiaa
