/- The arena's calls, as functions on its numbers: what the walks show to be computed. Nothing here names the program. Conditions: none. -/
import Derived.Test.YtbjmmfoklnhiiaaMem
namespace Go.Proofs.Ytbjmmfoklnhiiaa
open Go.RowKit

def eI (e : Bool) : Int := if e then 1 else 0

section
variable {α : Type}
/-- link: a node at an end of a list -/
def ASt.link (s : ASt α) (n l : Nat) (e : Bool) : ASt α :=
  if 0 ≤ s.E e l then
    (((((s.setLS n l).setB e n (-1)).setB (!e) n (s.E e l)).setB e (s.E e l).toNat n).setE e l n).setC l (s.CN l + 1)
  else
    (((((s.setLS n l).setB e n (-1)).setB (!e) n (s.E e l)).setE (!e) l n).setE e l n).setC l (s.CN l + 1)

/-- cut: a node out of its list -/
def ASt.cutA (s : ASt α) (li : Nat) (x0 x1 : Int) : ASt α := if x0 < 0 then s.setE false li x1 else s.setB true x0.toNat x1
def ASt.cutB (s : ASt α) (li : Nat) (x0 x1 : Int) : ASt α := if x1 < 0 then s.setE true li x0 else s.setB false x1.toNat x0
def ASt.cut (s : ASt α) (n : Nat) : ASt α :=
  ((s.cutA (s.LS n).toNat (s.B false n) (s.B true n)).cutB (s.LS n).toNat (s.B false n) (s.B true n)).setC (s.LS n).toNat (s.CN (s.LS n).toNat - 1)
section
variable (s : ASt α) (n : Nat)
theorem cut_V : (s.cut n).V = s.V := by unfold ASt.cut ASt.cutA ASt.cutB; split <;> split <;> rfl
theorem cut_LS : (s.cut n).LS = s.LS := by unfold ASt.cut ASt.cutA ASt.cutB; split <;> split <;> rfl
theorem cut_made : (s.cut n).made = s.made := by unfold ASt.cut ASt.cutA ASt.cutB; split <;> split <;> rfl
theorem cut_most : (s.cut n).most = s.most := by unfold ASt.cut ASt.cutA ASt.cutB; split <;> split <;> rfl
theorem cut_L : (s.cut n).L = s.L := by unfold ASt.cut ASt.cutA ASt.cutB; split <;> split <;> rfl
theorem cut_freed : (s.cut n).freed = s.freed := by unfold ASt.cut ASt.cutA ASt.cutB; split <;> split <;> rfl
theorem cut_used : (s.cut n).used = s.used := by unfold ASt.cut ASt.cutA ASt.cutB; split <;> split <;> rfl
theorem link_V (l : Nat) (e : Bool) : (s.link n l e).V = s.V := by unfold ASt.link; split <;> rfl
theorem link_made (l : Nat) (e : Bool) : (s.link n l e).made = s.made := by unfold ASt.link; split <;> rfl
theorem link_most (l : Nat) (e : Bool) : (s.link n l e).most = s.most := by unfold ASt.link; split <;> rfl
theorem link_L (l : Nat) (e : Bool) : (s.link n l e).L = s.L := by unfold ASt.link; split <;> rfl
theorem link_freed (l : Nat) (e : Bool) : (s.link n l e).freed = s.freed := by unfold ASt.link; split <;> rfl
theorem link_used (l : Nat) (e : Bool) : (s.link n l e).used = s.used := by unfold ASt.link; split <;> rfl
end
/-- a node as it is when it is free -/
def ASt.wipe (s : ASt α) (z : α) (n : Nat) : ASt α := (((s.setV n z).setLS n (-1)).setB false n s.freed).setB true n (-1)
/-- free: a node is cut out and lies ahead of those that were freed -/
def ASt.free (s : ASt α) (z : α) (n : Nat) : ASt α := (((s.cut n).wipe z n).setFr n).setUs (s.used - 1)
end
end Go.Proofs.Ytbjmmfoklnhiiaa
