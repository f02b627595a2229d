/- Standings in memory; the walks of slices.Equal, inner. Conditions: the bounds that are named. -/
import Derived.Test.YtjflllfkgbhemaaV7
namespace Go.Proofs.Ytjflllfkgbhemaa
open Go.RowKit

theorem Vw.below {w w' : World} {v : Value} {l : List Int} (h : Vw w v l) (hb : Below w.heap.size w w') : Vw w' v l := by
  obtain ⟨oa, cap, rfl, h⟩ := h
  exact ⟨oa, cap, rfl, fun i x hx => (h i x hx).below hb⟩
set_option maxRecDepth 100000 in
set_option maxHeartbeats 2000000 in
theorem equal_i (w : World) (u v : Value) (l1 l2 : List Int) (hu : Vw w u l1) (hv : Vw w v l2) (hl : l1.length ≤ 4194304) :
    Calls Try.prog 73 #[u, v] w fun en w' => en = .returned (.bool (decide (l1 = l2))) ∧ ∃ q, w' = w.drewN q := by
  obtain ⟨oa, ca, rfl, h1⟩ := hu
  obtain ⟨ob, cb, rfl, h2⟩ := hv
  have H1 := hide h1
  have H2 := hide h2
  clear h1 h2
  by_cases hn : l1.length = l2.length
  · rw [hn] at hl ⊢
    go_enter Try.func73, Try.ntmps73
    go_wp2
    go_loopw [13] (fun tx W => ∃ i : Nat, tx = .int .i64 (i : Int) ∧ i ≤ l2.length ∧ l1.take i = l2.take i ∧ ∃ q, W = w.drewN q) (fun tx _ => l2.length - (intOf tx).toNat)
    case atStart => exact ⟨0, rfl, Nat.zero_le _, rfl, 0, rfl⟩
    case round =>
      obtain ⟨i, rfl, hi, ht, q, rfl⟩ := hrel
      have HT := hide ht
      have HN := hide hn
      by_cases hlt : i < l2.length
      · obtain ⟨x, hx⟩ : ∃ x, l1[i]? = some x := ⟨_, List.getElem?_eq_getElem (by omega)⟩
        obtain ⟨y, hy⟩ : ∃ y, l2[i]? = some y := ⟨_, List.getElem?_eq_getElem hlt⟩
        obtain ⟨g, rfl, hg, c1⟩ := H1.out i x hx
        obtain ⟨g', rfl, hg', c2⟩ := H2.out i y hy
        have HX := hide hx
        have HY := hide hy
        clear ht hn hx hy hg hg'
        by_cases hxy : x = y
        · subst hxy
          go_wp2
          go_quiet (fail)
          go_wp2
          go_roundw
          case rel => exact ⟨i + 1, by go_num, by omega, by rw [List.take_add_one, List.take_add_one, HT.out, HX.out, HY.out], q + nq, by first | rfl | rw [World.drewN_drewN]⟩
          case measure => simp [intOf]; omega
        · have hne : ¬ l1 = l2 := by
            intro e
            have := HX.out
            rw [e, HY.out] at this
            exact hxy (by simpa using this.symm)
          have HNE := hide hne
          clear hne
          go_wp2
          go_quiet (fail)
          go_wp2
          go_ret
          refine ⟨?_, q + nq, by first | rfl | rw [World.drewN_drewN]⟩
          rw [decide_eq_false HNE.out]
          rfl
      · have he : l1 = l2 := by
          have e1 : l1.take i = l1 := List.take_of_length_le (by omega)
          have e2 : l2.take i = l2 := List.take_of_length_le (by omega)
          rw [← e1, ht, e2]
        have HE := hide he
        clear ht hn he
        go_wp2
        go_ret
        refine ⟨?_, _, rfl⟩
        rw [decide_eq_true HE.out]
        rfl
  · have hne : ¬ l1 = l2 := fun e => hn (by rw [e])
    have HNE := hide hne
    clear hne
    go_enter Try.func73, Try.ntmps73
    go_wp2
    all_goals
      first
      | (exfalso; omega)
      | (go_ret
         refine ⟨?_, 0, rfl⟩
         rw [decide_eq_false HNE.out]
         rfl)

/-- a standing: is it one; the operands' types; the open loops' ITurns, the innermost last; the hand -/
structure St where
  there : Bool
  ty : ByteArray
  ls : List Int
  hand : Int
def lv (ls : List Int) (i : Nat) : Int := (ls[i]?).getD 0
def St.cells (s : St) (mv : Value) : Array Value := #[.bool s.there, .string s.ty, .int .i64 (lv s.ls 0), .int .i64 (lv s.ls 1), .int .i64 (lv s.ls 2), .int .i64 (lv s.ls 3), .int .i64 (lv s.ls 4), .int .i64 (lv s.ls 5), .int .i64 (lv s.ls 6), .int .i64 (lv s.ls 7), .int .i64 (s.ls.length : Int), .int .i64 s.hand, mv]
theorem St.cell_at (s : St) (mv : Value) {k : Nat} (hk : k < 8) : (s.cells mv)[2 + k]? = some (.int .i64 (lv s.ls k)) := by
  obtain rfl | rfl | rfl | rfl | rfl | rfl | rfl | rfl : k = 0 ∨ k = 1 ∨ k = 2 ∨ k = 3 ∨ k = 4 ∨ k = 5 ∨ k = 6 ∨ k = 7 := by omega
  all_goals rfl
def StV (w : World) (v : Value) (s : St) : Prop := ∃ mv, v = .agg (s.cells mv) ∧ Vw w mv (s.ls.drop 8)
def innerV (ls : List Int) : Int := (ls.getLast?).getD (-1)
set_option maxRecDepth 100000 in
set_option maxHeartbeats 2000000 in
theorem inner_i (w : World) (v : Value) (s : St) (h : StV w v s) (hl : s.ls.length ≤ 4194304) : Calls Try.prog 70 #[v] w fun en w' => en = .returned (.int .i64 (innerV s.ls)) ∧ Below w.heap.size w w' := by
  obtain ⟨mv, rfl, hm⟩ := h
  obtain ⟨oa, ca, rfl, hm⟩ := hm
  have hal : Below w.heap.size w (w.alloc (.cells (s.cells (.slice oa (s.ls.drop 8).length ca)) 74)) := (Below.refl _ w).alloc (Nat.le_refl _) _
  have hb := Blk.new w 74 (s.cells (.slice oa (s.ls.drop 8).length ca))
  by_cases h0 : s.ls.length = 0
  · have hv : innerV s.ls = -1 := by simp [innerV, List.eq_nil_of_length_eq_zero h0]
    have HV := hide hv
    obtain ⟨there, ty, ls, hand⟩ := s
    simp only [St.cells] at *
    rw [h0] at hal ⊢
    have HAL := hide hal
    clear hal hb hm hv
    go_enter Try.func70, Try.ntmps70
    go_wp2
    go_ret
    exact ⟨by rw [HV.out]; rfl, (Below.refl _ w).alloc (Nat.le_refl _) _⟩
  · by_cases h8 : s.ls.length ≤ 8
    · obtain ⟨k, hk⟩ : ∃ k, s.ls.length = k + 1 := ⟨s.ls.length - 1, by omega⟩
      have ck := hb.cell (2 + k)
      rw [St.cell_at s _ (by omega)] at ck
      have hv : innerV s.ls = lv s.ls k := by simp [innerV, lv, List.getLast?_eq_getElem?, hk]
      have HV := hide hv
      obtain ⟨there, ty, ls, hand⟩ := s
      simp only [St.cells] at *
      generalize (ls.drop 8).length = ml at *
      rw [hk, show ((k + 1 : Nat) : Int) = (k : Int) + 1 from by simp] at ck hal ⊢
      have HAL := hide hal
      have hk8 : k < 8 := by omega
      clear hal hb hm hv
      go_enter Try.func70, Try.ntmps70
      go_wp2
      go_ret
      exact ⟨by rw [HV.out]; rfl, (Below.refl _ w).alloc (Nat.le_refl _) _⟩
    · obtain ⟨k, hk⟩ : ∃ k, s.ls.length = k + 9 := ⟨s.ls.length - 9, by omega⟩
      have hdl : (s.ls.drop 8).length = k + 1 := by simp [hk]
      obtain ⟨y, hy⟩ : ∃ y, s.ls[k + 8]? = some y := ⟨_, List.getElem?_eq_getElem (by omega)⟩
      have hy2 : (s.ls.drop 8)[k]? = some y := by rw [List.getElem?_drop, Nat.add_comm]; exact hy
      obtain ⟨g, hg, hgl, q0⟩ := hm k y hy2
      have q1 := (hal.cell (p := ⟨g, k, none⟩) (by exact hgl)).trans q0
      have hv : innerV s.ls = y := by unfold innerV; rw [List.getLast?_eq_getElem?, hk, show k + 9 - 1 = k + 8 from rfl, hy]; rfl
      have HV := hide hv
      obtain ⟨there, ty, ls, hand⟩ := s
      simp only [St.cells] at *
      subst hg
      rw [hdl] at q1 hal ⊢
      rw [hk, show ((k + 9 : Nat) : Int) = (k : Int) + 9 from by simp] at q1 hal ⊢
      have HAL := hide hal
      rw [hk] at hl
      clear hal hb hm hv hy hy2 hgl hdl h0 h8 hk
      go_enter Try.func70, Try.ntmps70
      go_wp2
      go_ret
      exact ⟨by rw [HV.out]; rfl, (Below.refl _ w).alloc (Nat.le_refl _) _⟩
end Go.Proofs.Ytjflllfkgbhemaa
