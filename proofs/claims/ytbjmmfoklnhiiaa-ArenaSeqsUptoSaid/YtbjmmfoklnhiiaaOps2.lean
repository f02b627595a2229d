/- The arena's exported calls, as functions on its numbers. Nothing here names the program. Conditions: none. -/
import Derived.Test.YtbjmmfoklnhiiaaOps
namespace Go.Proofs.Ytbjmmfoklnhiiaa
open Go.RowKit

def isEndB (e : Int) : Bool := decide (e = 0 ∨ e = 1)
def eB (e : Int) : Bool := decide (e = 1)
section
variable {α : Type}
def ASt.isB (s : ASt α) (l e : Int) : Bool := decide (0 ≤ l ∧ l < s.L) && isEndB e
def ASt.holds (s : ASt α) (n : Int) : Int := if n < 0 ∨ s.most ≤ n then 1 else if s.made ≤ n ∨ s.LS n.toNat < 0 then 53 else 0
def ASt.get (s : ASt α) (z : α) (n : Int) : α := if s.holds n = 0 then s.V n.toNat else z
def ASt.set (s : ASt α) (n : Int) (v : α) : ASt α := if s.holds n = 0 then s.setV n.toNat v else s
def ASt.listN (s : ASt α) (n : Int) : Int := if s.holds n = 0 then s.LS n.toNat else 0
def ASt.listB (s : ASt α) (n : Int) : Bool := decide (s.holds n = 0)
def ASt.peekN (s : ASt α) (l e : Int) : Int := if s.isB l e = true then max (s.E (eB e) l.toNat) 0 else 0
def ASt.peekB (s : ASt α) (l e : Int) : Bool := if s.isB l e = true then decide (0 ≤ s.E (eB e) l.toNat) else false
def ASt.nextN (s : ASt α) (n e : Int) : Int := if s.holds n = 0 ∧ isEndB e = true then max (s.B (eB e) n.toNat) 0 else 0
def ASt.nextB (s : ASt α) (n e : Int) : Bool := if s.holds n = 0 ∧ isEndB e = true then decide (0 ≤ s.B (eB e) n.toNat) else false
def ASt.len (s : ASt α) (l : Int) : Int := if 0 ≤ l ∧ l < s.L then s.CN l.toNat else 0

/-- a node more is made -/
def ASt.grow (s : ASt α) (z : α) : ASt α := { s with made := s.made + 1, V := upd s.V s.made z, LS := upd s.LS s.made 0, B := fun e => upd (s.B e) s.made 0 }
/-- the node that Push takes, and what is there before it is laid -/
def ASt.pushN (s : ASt α) : Int := if s.freed < 0 then s.made else s.freed
def ASt.pushS (s : ASt α) (z : α) : ASt α := if s.freed < 0 then s.grow z else s.setFr (s.B false s.freed.toNat)
def ASt.pushOk (s : ASt α) (z : α) (l : Nat) (e : Bool) (v : α) : ASt α := (((s.pushS z).setV s.pushN.toNat v).link s.pushN.toNat l e).setUs (s.used + 1)
def ASt.pushE (s : ASt α) (l e : Int) : Int := if s.isB l e = false then 1 else if s.used = s.most then 51 else 0
def ASt.push (s : ASt α) (z : α) (l e : Int) (v : α) : ASt α := if s.pushE l e = 0 then s.pushOk z l.toNat (eB e) v else s
def ASt.popE (s : ASt α) (l e : Int) : Int := if s.isB l e = false then 1 else if s.E (eB e) l.toNat < 0 then 52 else 0
def ASt.pop (s : ASt α) (z : α) (l e : Int) : ASt α := if s.popE l e = 0 then s.free z (s.E (eB e) l.toNat).toNat else s
def ASt.popV (s : ASt α) (z : α) (l e : Int) : α := if s.popE l e = 0 then s.V (s.E (eB e) l.toNat).toNat else z
def ASt.unlink (s : ASt α) (z : α) (n : Int) : ASt α := if s.holds n = 0 then s.free z n.toNat else s
def ASt.moveE (s : ASt α) (n l e : Int) : Int := if s.holds n = 1 ∨ s.isB l e = false then 1 else s.holds n
def ASt.move (s : ASt α) (n l e : Int) : ASt α := if s.moveE n l e = 0 then (s.cut n.toNat).link n.toNat l.toNat (eB e) else s
end
end Go.Proofs.Ytbjmmfoklnhiiaa
