/- The walk of same. Conditions: the bounds that are named. -/
import Derived.Test.YtjflllfkgbhemaaV13
namespace Go.Proofs.Ytjflllfkgbhemaa
open Go.RowKit
set_option linter.unusedVariables false in
set_option maxRecDepth 100000 in
set_option maxHeartbeats 4000000 in
theorem same_i (w : World) (u v : Value) (a b : St) (hu : StM w u a) (hv : StM w v b) (ha : a.ls.length ≤ 4194304) (hb : b.ls.length ≤ 4194304) :
    Calls Try.prog 51 #[u, v] w fun en w' => en = .returned (.bool (sameV a b)) ∧ Below w.heap.size w w' := by
  obtain ⟨oa, ca, rfl, hm⟩ := hu
  obtain ⟨ob, cb, rfl, hn⟩ := hv
  have hlow : Below w.heap.size w ((w.alloc (.cells (a.cells (.slice oa (a.ls.length - 8) ca)) 74)).alloc (.cells (b.cells (.slice ob (b.ls.length - 8) cb)) 74)) := ((Below.refl _ w).alloc (Nat.le_refl _) _).alloc (by simp) _
  have heq := equal_i _ (.slice oa (a.ls.drop 8).length ca) (.slice ob (b.ls.drop 8).length cb) (a.ls.drop 8) (b.ls.drop 8) ⟨oa, ca, rfl, (hm.below hlow).at_⟩ ⟨ob, cb, rfl, (hn.below hlow).at_⟩ (by simp; omega)
  rw [List.length_drop, List.length_drop] at heq
  obtain ⟨th, ty, ls, hand⟩ := a
  obtain ⟨th', ty', ls', hand'⟩ := b
  have hq := fun W => arr_i W ls ls'
  simp only [St.cells] at *
  have hs : sameV ⟨th, ty, ls, hand⟩ ⟨th', ty', ls', hand'⟩ = (decide (ty = ty') && decide (ls = ls') && decide (hand = hand')) := rfl
  have hfin : ls.length = ls'.length → (decide (ls = ls') = (eq8 ls ls' && decide (ls.drop 8 = ls'.drop 8))) := by
    intro hl
    rw [Bool.eq_iff_iff]
    simp [eq8_iff hl]
  have hne : ls.length ≠ ls'.length → ls ≠ ls' := fun h e => h (by rw [e])
  have HE := hide heq
  have HL := hide hlow
  have HS := hide hs
  have HF := hide hfin
  have HN := hide hne
  clear hm hn heq hlow hs hfin hne
  by_cases h1 : ty = ty'
  · subst h1
    by_cases h3 : ls.length = ls'.length
    · have hls := HF.out h3
      rw [h3] at HE HL ⊢
      have H3 := hide h3
      clear h3 ha
      generalize eq8 ls ls' = e8 at *
      cases e8
      · have hr : sameV ⟨th, ty, ls, hand⟩ ⟨th', ty, ls', hand'⟩ = false := by rw [HS.out, hls]; simp
        have HR := hide hr
        clear hls hr
        go_enter Try.func51, Try.ntmps51
        go_wp2_with (go_at_call 73
                     refine HE.out.mono ?_
                     rintro en w' ⟨rfl, q, rfl⟩)
        all_goals
          go_ret
          exact ⟨by rw [HR.out]; rfl, ((Below.refl _ w).alloc (Nat.le_refl _) _).alloc (by simp) _⟩
      · by_cases h4 : hand = hand'
        · subst h4
          have hr : sameV ⟨th, ty, ls, hand⟩ ⟨th', ty, ls', hand⟩ = decide (ls.drop 8 = ls'.drop 8) := by rw [HS.out, hls]; simp
          have HR := hide hr
          clear hls hr
          go_enter Try.func51, Try.ntmps51
          go_wp2_with (go_at_call 73
                       refine HE.out.mono ?_
                       rintro en w' ⟨rfl, q, rfl⟩)
          all_goals
            go_ret
            refine ⟨by rw [HR.out]; rfl, ?_⟩
            exact below_drewN (((Below.refl _ w).alloc (Nat.le_refl _) _).alloc (by simp) _) _
        · have hr : sameV ⟨th, ty, ls, hand⟩ ⟨th', ty, ls', hand'⟩ = false := by rw [HS.out]; simp [h4]
          have HR := hide hr
          clear hls hr
          go_enter Try.func51, Try.ntmps51
          go_wp2_with (go_at_call 73
                       refine HE.out.mono ?_
                       rintro en w' ⟨rfl, q, rfl⟩)
          all_goals
            go_ret
            exact ⟨by rw [HR.out]; rfl, ((Below.refl _ w).alloc (Nat.le_refl _) _).alloc (by simp) _⟩
    · have hr : sameV ⟨th, ty, ls, hand⟩ ⟨th', ty, ls', hand'⟩ = false := by rw [HS.out]; simp [HN.out h3]
      have HR := hide hr
      clear hr
      generalize eq8 ls ls' = e8 at *
      go_enter Try.func51, Try.ntmps51
      go_wp2_with (go_at_call 73
                   refine HE.out.mono ?_
                   rintro en w' ⟨rfl, q, rfl⟩)
      all_goals
        go_ret
        exact ⟨by rw [HR.out]; rfl, ((Below.refl _ w).alloc (Nat.le_refl _) _).alloc (by simp) _⟩
  · have hr : sameV ⟨th, ty, ls, hand⟩ ⟨th', ty', ls', hand'⟩ = false := by rw [HS.out]; simp [h1]
    have HR := hide hr
    have ht : (ty.toList == ty'.toList) = false := by
      rw [ByteArray.toList_eq, ByteArray.toList_eq, beq_eq_false_iff_ne]
      intro e
      apply h1
      cases ty
      cases ty'
      exact congrArg ByteArray.mk (Array.toList_inj.1 e)
    clear hr
    go_enter Try.func51, Try.ntmps51
    go_wp2_with (go_at_call 73
                 refine HE.out.mono ?_
                 rintro en w' ⟨rfl, q, rfl⟩)
    all_goals
      go_ret
      exact ⟨by rw [HR.out]; rfl, ((Below.refl _ w).alloc (Nat.le_refl _) _).alloc (by simp) _⟩
end Go.Proofs.Ytjflllfkgbhemaa
