/- An append to an own row, as one step of a region that draws its order; the standings that are made at first. Conditions: none. -/
import Derived.Test.YtjflllfkgbhemaaVr
import Derived.Test.YtjflllfkgbhemaaVs
import Derived.Deep.RegionLaw
import Derived.OwnWalk
namespace Go.Proofs.Ytjflllfkgbhemaa
open Go.RowKit
theorem step_append_own {P : Program} {ops : Array Oper} {o : Oper} {a : Act} {w : World} {K : Act → World → Prop} {Q : Exit → Act → World → Prop} {E : Prop}
    (hg : o.guard = none) (s x : Operand) (t : TypeId) (hop : o.op = Op.call { callee := Callee.builtin Builtin.append, args := #[s, x], argTypes := #[t, t] })
    (base : Nat) (e : TypeId) (i : TypeInfo) (z : Value) (size bytes : Nat) (h1 : P.underlying t = some (.slice e)) (h2 : P.info? e = some i) (h3 : i.zero = some z) (h4 : i.size = size) (h5 : i.bytes = bytes) (h6 : z.cells.size = size) (h7 : 0 < size)
    (v : Value) (n : Nat) (xs : List Value) (hs : a.eval s = v) (hown : w.ownsRow base e size v n xs)
    (ad : Addr) (m c : Nat) (news : List Value) (hx : a.eval x = .slice (some ad) m c) (hn : news.length = m * size) (hc : ∀ j u, news[j]? = some u → w.cell? (ad.add j) = some u) (h1c : ∀ u ∈ news, u.oneCell' = true)
    (b1 : n + m ≤ maxLen) (b2 : (n + m) * bytes ≤ 140737488355328) (hb : base ≤ w.heap.size)
    (hK : ∀ v' w', w'.ownsRow base e size v' (n + m) (xs ++ news) → w.grownBy w' v.ownBlock → K (a.put o.dst v') w') :
    if Region.wanted o (yielded ops a.tmps) = true then Oper.wp P o a w K Q else E := by
  have hw : Region.wanted o (yielded ops a.tmps) = true := by simp [Region.wanted, hg]
  rw [if_pos hw]
  obtain ⟨v', w', hrun, r1, r2, _⟩ := run_append_own (P := P) w base t o.type e i z size bytes h1 h2 h3 h4 h5 h6 h7 v n xs hown ad m c news hn hc h1c b1 b2 hb
  unfold Oper.wp
  simp [execOp, hop, resolve, invoke, builtin, hs, hx, hrun, Result.andThen]
  exact hK v' w' r1 r2
/-- no standing -/
def st0 : St := ⟨false, ⟨#[]⟩, [], 0⟩
theorem made_at (w : World) (n : Nat) (cs : Array Value) (rb : Nat) (h : Blk w rb 74 cs) (hs : cs.size = n * 13) (hc : ∀ i j, i < n → j < 13 → cs[i * 13 + j]? = (st0.cells (.slice none 0 0))[j]?) : AtRow w rb (List.replicate n st0) := by
  refine ⟨⟨cs, h, by simp [hs]⟩, fun i s hi => ?_⟩
  rw [List.getElem?_replicate] at hi
  split at hi
  · next hin =>
    cases hi
    refine ⟨none, 0, ⟨⟨by simp [st0], by unfold maxLen; omega, fun _ => rfl, (fun a ha => by cases ha), (fun k x hx => by simp [st0] at hx)⟩, (fun a ha => by cases ha)⟩, fun j x hj => ?_⟩
    have hj13 : j < 13 := (Array.getElem?_eq_some_iff.1 hj).1
    rw [h.cell, hc i j hin hj13]
    exact hj
  · cases hi
theorem made_cells (n i j : Nat) (hi : i < n) (hj : j < 13) : (madeCells (st0.cells (.slice none 0 0)) (n * 13))[i * 13 + j]? = (st0.cells (.slice none 0 0))[j]? := by
  have h1 : i * 13 + j < n * 13 := by omega
  have h2 : (i * 13 + j) % 13 = j := by omega
  have hz : (st0.cells (.slice none 0 0)).size = 13 := rfl
  rw [Array.getElem?_eq_getElem (by simp [madeCells]; exact h1), Array.getElem?_eq_getElem (by rw [hz]; exact hj)]
  simp [madeCells, hz, h2]
  exact getElem!_pos _ j (by rw [hz]; exact hj)
theorem info74 : (Try.prog.info? 74).map (fun i => (i.zero, i.size)) = some (some (.agg (st0.cells (.slice none 0 0))), 13) := by kernel_rfl
theorem info74b : (Try.prog.info? 74).map (fun i => (i.zero, i.size, i.bytes)) = some (some (.agg (st0.cells (.slice none 0 0))), 13, 128) := by kernel_rfl
end Go.Proofs.Ytjflllfkgbhemaa
