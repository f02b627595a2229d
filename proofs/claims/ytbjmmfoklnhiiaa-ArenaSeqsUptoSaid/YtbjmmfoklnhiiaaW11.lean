/- The walk of All at int: it goes over a list and keeps what it saw. Conditions: the bounds that are named. -/
import Derived.Test.YtbjmmfoklnhiiaaW10
import Derived.Test.YtbjmmfoklnhiiaaTell
import Derived.Deep.RegionHeld3
import Derived.Deep.AppendLies
import Derived.Deep.RegionLaw
namespace Go.Proofs.Ytbjmmfoklnhiiaa
open Go.RowKit

def rowCells (xs : List (Nat × Int)) : List Value := xs.flatMap fun x => [.int .i64 x.1, .int .i64 x.2]
theorem rowCells_snoc (xs : List (Nat × Int)) (x : Nat × Int) : rowCells (xs ++ [x]) = rowCells xs ++ [.int .i64 x.1, .int .i64 x.2] := by simp [rowCells]

theorem info79 : (Try.prog.info? 79).map (fun i => (i.zero, i.size, i.bytes)) = some (some (.agg #[.int .i64 0, .int .i64 0]), 2, 16) := by kernel_rfl

/-- the length of the slice that a variable's box holds -/
def boxLen (w : World) (g : Nat) : Nat := match w.cell? ⟨g, 0, none⟩ with | some (.slice _ n _) => n | _ => 0
theorem boxLen_blk {w : World} {g : Nat} {t : TypeId} {a : Option Addr} {n c : Nat} (h : Blk w g t #[.slice a n c]) : boxLen w g = n := by
  unfold boxLen; rw [h.cell]; rfl

set_option maxRecDepth 100000 in
set_option maxHeartbeats 1000000 in
theorem all_i (w : World) (f : Fp) (s : ASt Int) (h : AMem Ki w f s) (l e : Int) (xs : List (Nat × Int)) (hx : Told s l e xs) (hm : s.made ≤ 4194304) :
    Calls Try.prog 15 #[.pointer (some ⟨f.ab, 0, none⟩), .int .i64 l, .int .i64 e] w fun en w' => ∃ v, en = .returned (.func (.func 38) #[] #[.pointer (some ⟨w.heap.size, 0, none⟩)]) ∧
      Blk w' w.heap.size 70 #[v] ∧ w'.ownsRow (w.heap.size + 1) 79 2 v xs.length (rowCells xs) ∧ Below w.heap.size w w' := by
  have hpk := peek_i w f s h l e
  rw [hx.pn, hx.pb] at hpk
  have hablt := h.ablt
  have hlts : ∀ k, f.has k → k < w.heap.size := fun k hk => by have := h.ablt; have := h.gblt; have := h.lblt; rcases hk with e | e | e <;> omega
  have HLT := hide hlts
  obtain ⟨i0, hi0, hz0, hz1, hz2⟩ := info_parts info79
  have hxl := hx.short
  have HPK := hide (fun w' hw => by
    have := peek_i w' f s hw l e
    rw [hx.pn, hx.pb] at this
    exact this : ∀ w', AMem Ki w' f s → _)
  have HM := hide h
  have HX := hide hx
  clear h hx hpk hlts
  go_enter Try.func15, Try.ntmps15
  go_wp2_with (go_at_call 35; refine (HPK.out _ (HM.out.alloc _)).mono ?_; rintro en w' ⟨rfl, rfl⟩)
  go_loopw [8, 9] (fun n ok wr => ∃ (k : Nat) (a : Option Addr) (c : Nat), k ≤ xs.length ∧ n = .int .i64 (max (nodeAt xs k) 0) ∧ ok = .bool (decide (k < xs.length)) ∧ AMem Ki wr f s ∧ Blk wr w.heap.size 70 #[.slice a k c] ∧
      wr.ownsRow (w.heap.size + 1) 79 2 (.slice a k c) k (rowCells (xs.take k)) ∧ Below w.heap.size w wr) (fun _ _ wr => xs.length - boxLen wr w.heap.size)
  case atStart =>
    exact ⟨0, none, 0, Nat.zero_le _, rfl, rfl, HM.out.alloc _, Blk.new _ _ _, World.ownsRow_nil _ _ _ _, (Below.refl _ _).alloc (Nat.le_refl _) _⟩
  case round =>
    obtain ⟨k, a, c, hk, rfl, rfl, hM, hbx, hown, hB⟩ := hrel
    by_cases hlt : k < xs.length
    · rw [decide_eq_true hlt]
      have hxk : xs[k]? = some xs[k] := List.getElem?_eq_getElem hlt
      obtain ⟨hx1, hx2, hx3, hx4⟩ := HX.out.step hxk
      have hN : nodeAt xs k = (xs[k].1 : Int) := nodeAt_some hxk
      rw [hN, show max ((xs[k].1 : Nat) : Int) 0 = xs[k].1 from by omega]
      obtain ⟨cap, _, _, hnodes, _⟩ := hM.nodes (by omega)
      obtain ⟨c1, _⟩ := node_i hM hx1
      rw [hx2] at c1
      have hnx := fun W (hW : AMem Ki W f s) => next_i W f s hW xs[k].1 (1 - e)
      rw [hx3, hx4] at hnx
      have HN := hide hnx
      clear hnx
      have he0 : 0 ≤ e := by have := HX.out.ends (by omega); omega
      have he1 : e ≤ 1 := by have := HX.out.ends (by omega); omega
      generalize hxx : xs[k] = x at *
      obtain ⟨n, y⟩ := x
      have hb0 := hbx.cell 0
      have hf0 := hbx.frozen 0
      have hb0' : wr.cell? ⟨w.heap.size, 0, none⟩ = some (.slice a k c) := hb0
      have hszr := hbx.lt
      have hn0 : (0 : Int) ≤ (n : Int) := Int.natCast_nonneg _
      have hn1 : (n : Int) < (s.made : Int) := by simpa using hx1
      have hbnd1 : k + 1 ≤ maxLen := by unfold maxLen; omega
      have hbnd2 : (k + 1) * 16 ≤ 140737488355328 := by omega
      have hwz : w.heap.size + 1 ≤ wr.heap.size := by omega
      have hne : some w.heap.size ≠ (Value.slice a k c).ownBlock := fun e => by have := (hown.lt _ e.symm).1; omega
      have HNE := hide hne
      have HOW := hide hown
      have HBX := hide hbx
      have HMM := hide hM
      have HBB := hide hB
      have HS1 := hide hx1
      have HS2 := hide hx2
      have HS3 := hide hx3
      have HS4 := hide hx4
      have HXK := hide hxk
      rename_i tr1 tr2 tr3 tr4
      clear tr2 tr4
      simp only at c1
      clear hne hown hbx hM hB hxx hxk hx1 hx2 hx3 hx4 hN hb0
      go_wp2_with fail
      go_region_law ((refine step_append_lies _ (by rfl) (.tmp 26) (.tmp 37) 70 (by rfl) (w.heap.size + 1) 79 i0 _ 2 16 Try.underlying70 hi0 hz0 hz1 hz2 rfl (by omega) (.slice a k c) k _ (by rfl) ((HOW.out.alloc _).drew) ⟨wr.heap.size, 0, none⟩ 1 1 [.int .i64 n, .int .i64 y] (by rfl) (by rfl) (World.news_of_block (cs := #[.int .i64 n, .int .i64 y]) (t := 79) (fr := (0, 0)) (heap_alloc_new wr _)) (by simp [Value.oneCell']) (by omega) hbnd1 hbnd2 (by simp; omega) (wr.heap.size + 1) (by simp) ?_; intro gg cap' w1 hown1 hgrow hat hlt1; have hbx1 : Blk w1 w.heap.size 70 #[.slice a k c] := (HBX.out.alloc _).drew.grown hgrow HNE.out; have q1 : w1.cell? ⟨w.heap.size, 0, none⟩ = some (.slice a k c) := hbx1.cell 0; have q2 := hbx1.frozen 0; have HB1 := hide hbx1; have HO1 := hide hown1; have HG1 := hide hgrow; clear hbx1 hown1 hgrow hat hlt1))
      all_goals
        have hB2 : Below w.heap.size w (w1.setCell ⟨w.heap.size, 0, none⟩ (.slice (some ⟨gg, 0, none⟩) (k + 1) cap')) :=
          (((HBB.out.alloc (by omega) _).drew).grown HG1.out (by simp; omega) (fun j hj => by have := (HOW.out.lt j hj).1; omega)).setCell (p := ⟨w.heap.size, 0, none⟩) (Nat.le_refl _) _
        have hM2 := HM.out.below hB2 HLT.out
        have HB2 := hide hB2
        have HM2 := hide hM2
        clear hB2 hM2
        go_wp2_with (go_at_call 37; refine (HN.out _ HM2.out).mono ?_; rintro en w' ⟨rfl, rfl⟩)
        go_roundw
        case rel =>
          refine ⟨k + 1, _, _, by omega, rfl, rfl, HM2.out, HB1.out.set_ 0 _, ?_, HB2.out⟩
          have e1 : rowCells (xs.take (k + 1)) = rowCells (xs.take k) ++ [.int .i64 n, .int .i64 y] := by
            rw [List.take_add_one, HXK.out]
            exact rowCells_snoc _ (n, y)
          rw [e1]
          exact own_far (p := ⟨w.heap.size, 0, none⟩) HO1.out (own_blk_ne HO1.out HB1.out (by decide)) _
        case measure =>
          rw [boxLen_blk (HB1.out.set_ 0 (.slice (some ⟨gg, 0, none⟩) (k + 1) cap')), boxLen_blk HBX.out]
          omega
    · rw [decide_eq_false hlt]
      have hkl : k = xs.length := by omega
      have HBX := hide hbx
      have HOW := hide hown
      have HBB := hide hB
      clear hbx hown hB hM
      go_wp2
      go_ret
      rw [hkl, List.take_of_length_le (Nat.le_refl _)] at HOW
      rw [hkl] at HBX
      exact ⟨_, rfl, HBX.out, HOW.out, HBB.out⟩
end Go.Proofs.Ytbjmmfoklnhiiaa
