/- What the walks of the arena's calls need of its numbers. Nothing here names the program. Conditions: none. -/
import Derived.Test.YtbjmmfoklnhiiaaOps2
namespace Go.Proofs.Ytbjmmfoklnhiiaa

structure ASt.Bd {α : Type} (s : ASt α) : Prop where
  mm : s.made ≤ s.most
  m22 : s.most ≤ 4194304
  l256 : s.L ≤ 256
  u0 : 0 ≤ s.used
  um : s.used ≤ s.made
  inL : ∀ {n : Int}, s.holds n = 0 → s.LS n.toNat < s.L
  inB : ∀ {n : Int}, s.holds n = 0 → ∀ e, -1 ≤ s.B e n.toNat ∧ s.B e n.toNat < s.made ∧ s.B e n.toNat ≠ n
  inC : ∀ {n : Int}, s.holds n = 0 → 0 < s.CN (s.LS n.toNat).toNat ∧ s.CN (s.LS n.toNat).toNat ≤ 4194304
  inU : ∀ {n : Int}, s.holds n = 0 → 0 < s.used
  ends : ∀ (e : Bool) {l : Nat}, l < s.L → -1 ≤ s.E e l ∧ s.E e l < s.made ∧ (0 ≤ s.E e l → s.holds (s.E e l) = 0)
  cnt : ∀ {l : Nat}, l < s.L → 0 ≤ s.CN l ∧ s.CN l ≤ 4194304
  fr : -1 ≤ s.freed ∧ s.freed < s.made
  frn : 0 ≤ s.freed → s.LS s.freed.toNat < 0
  full : s.used < s.most → s.freed < 0 → s.made < s.most
  cutE : ∀ {n : Int}, s.holds n = 0 → ∀ (e : Bool) {l : Nat}, l < s.L → -1 ≤ (s.cut n.toNat).E e l ∧ (s.cut n.toNat).E e l < s.made ∧ ¬ (s.cut n.toNat).E e l = n
  cutC : ∀ {n : Int}, s.holds n = 0 → ∀ {l : Nat}, l < s.L → 0 ≤ (s.cut n.toNat).CN l ∧ (s.cut n.toNat).CN l ≤ 4194304

section
variable {α : Type} {s : ASt α} (h : s.Bd)
include h
theorem ASt.Bd.made22 : s.made ≤ 4194304 := by have := h.mm; have := h.m22; omega
theorem ASt.Bd.used22 : s.used ≤ 4194304 := by have := h.made22; have := h.um; omega
end
end Go.Proofs.Ytbjmmfoklnhiiaa
