/- The walk of slices.Clone at int. Conditions: the bound on the length. -/
import Derived.Test.YtjflllfkgbhemaaV16
import Derived.Laws.Cover3
namespace Go.Proofs.Ytjflllfkgbhemaa
open Go.RowKit

theorem nil_i (W : World) (a : Option Addr) (n c : Nat) : (binOp .eql 25 (.slice a n c) (.slice none 0 0)).run Try.prog W = .ok (.bool a.isNone) W := by
  simp only [binOp]
  simp [run_equal_slice_nil W 25 3 a n c Try.underlying25]
set_option maxRecDepth 100000 in
set_option maxHeartbeats 2000000 in
theorem clone_i (w : World) (oa : Option Addr) (ca : Nat) (l : List Int) (h : Mv w oa ca l) (hl : l.length ≤ 4194304) :
    Calls Try.prog 33 #[.slice oa l.length ca] w fun en w' => ∃ v', en = .returned v' ∧ w'.ownsRow w.heap.size 3 1 v' l.length (ints l) ∧ Below w.heap.size w w' := by
  obtain ⟨i0, hi, hz0, hz1, hz2⟩ := info_parts info3
  cases oa with
  | none =>
    have h3 := h.none_ rfl
    have h1 := h.le
    have h4 : l = [] := List.eq_nil_of_length_eq_zero (by omega)
    subst h3 h4
    have hn := fun W => nil_i W none 0 0
    simp only [List.length_nil, Option.isNone_none] at *
    clear h h1
    go_enter Try.func33, Try.ntmps33
    go_wp2
    go_ret
    exact ⟨_, rfl, World.ownsRow_nil _ _ _ _, Below.refl _ _⟩
  | some a =>
    obtain ⟨g, rfl, hg⟩ := h.some_ a rfl
    have hn := fun W => nil_i W (some ⟨g, 0, none⟩) l.length ca
    simp only [Option.isNone_some] at hn
    have hown : (w.alloc (.cells #[] 3)).ownsRow w.heap.size 3 1 (.slice (some ⟨w.heap.size, 0, none⟩) 0 0) 0 [] := World.ownsRow_made w #[] 0 (Nat.le_refl _) (by decide) rfl
    have hcs : ∀ (j : Nat) (u : Value), (ints l)[j]? = some u → (w.alloc (.cells #[] 3)).cell? (Addr.add ⟨g, 0, none⟩ j) = some u := by
      intro j u hj
      simp only [ints, List.getElem?_map] at hj
      cases hx : l[j]? with
      | none => rw [hx] at hj; cases hj
      | some x =>
        rw [hx] at hj
        simp at hj
        subst hj
        obtain ⟨g', e', _, hc⟩ := h.at_ j x hx
        have hadd : (⟨g, 0, none⟩ : Addr).add j = ⟨g, j, none⟩ := by unfold Addr.add; split <;> simp_all
        rw [hadd]
        obtain rfl : g = g' := by injection e' with e; injection e
        exact (((Below.refl _ w).alloc (Nat.le_refl _) (.cells #[] 3)).cell (by exact hg)).trans hc
    have HO := hide hown
    have HC := hide hcs
    clear h hown hcs hg
    go_enter Try.func33, Try.ntmps33
    go_wp2_with (at_builtin
                 refine wpList_append_own _ rfl (.tmp 5) (.tmp 6) 25 rfl w.heap.size 3 i0 (.int .i64 0) 1 8 Try.underlying25 hi hz0 hz1 hz2 rfl (by decide) _ _ _ rfl HO.out ⟨g, 0, none⟩ l.length ca (ints l) rfl (by simp [ints]) HC.out (by intro u hu; simp only [ints, List.mem_map] at hu; obtain ⟨x, _, rfl⟩ := hu; rfl) (by unfold maxLen; omega) (by omega) (by simp) ?_
                 intro v' w2 hown' hgrow hnn
                 have HO2 := hide hown'
                 have HG := hide hgrow
                 clear hown' hgrow hnn)
    go_ret
    refine ⟨_, rfl, by simpa using HO2.out, ?_⟩
    have h1 : Below w.heap.size w (w.alloc (.cells #[] 3)) := (Below.refl _ w).alloc (Nat.le_refl _) _
    have h2 : Below w.heap.size (w.alloc (.cells #[] 3)) w2 := ⟨HG.out.os, HG.out.tape, HG.out.output, HG.out.size, fun k hk => HG.out.block k (by simp; omega) (fun e => by have h : k = w.heap.size := Option.some.inj (show some k = some w.heap.size from e); omega)⟩
    exact h1.trans h2
end Go.Proofs.Ytjflllfkgbhemaa
