/- The walks of the law's 'round' and 'listed'. Conditions: the list is told. -/
import Derived.Test.YtbjmmfoklnhiiaaW25
namespace Go.Proofs.Ytbjmmfoklnhiiaa
open Go.RowKit Go.Shelf
attribute [local go_sem] Oper.semAt_some

def roundV (x n : Int) : Int := if x.tmod n < 0 then x.tmod n + n else x.tmod n
theorem roundV_in (x : Int) {n : Int} (h : 0 < n) : 0 ≤ roundV x n ∧ roundV x n < n := by
  have h1 := Int.tmod_lt_of_pos x h
  have h2 := Int.lt_tmod_of_pos x h
  unfold roundV
  split <;> omega
set_option maxRecDepth 100000 in
theorem round_i (w : World) (x n : Int) (hn : 0 < n) (hn2 : n ≤ 256) : Calls Try.prog 14 #[.int .i64 x, .int .i64 n] w fun en w' => en = .returned (.int .i64 (roundV x n)) ∧ w = w' := by
  have h1 := Int.tmod_lt_of_pos x hn
  have h2 := Int.lt_tmod_of_pos x hn
  unfold roundV
  go_enter Try.func14, Try.ntmps14
  go_wp2
  all_goals
    go_ret
    exact ⟨rfl, rfl⟩

/-- what 'listed' lays: nodes and values by turns -/
def prs (xs : List (Nat × Int)) : List Int := xs.flatMap fun x => [(x.1 : Int), x.2]
theorem prs_len (xs : List (Nat × Int)) : (prs xs).length = xs.length * 2 := by
  induction xs with
  | nil => rfl
  | cons x xs ih => simp [prs] at ih ⊢; omega
theorem prs_snoc (xs : List (Nat × Int)) (x : Nat × Int) : prs (xs ++ [x]) = prs xs ++ [(x.1 : Int), x.2] := by simp [prs]
theorem prs_get {xs : List (Nat × Int)} {k : Nat} {x : Nat × Int} (h : xs[k]? = some x) : (prs xs)[k * 2]? = some (x.1 : Int) ∧ (prs xs)[k * 2 + 1]? = some x.2 := by
  induction xs generalizing k with
  | nil => simp at h
  | cons y ys ih =>
    cases k with
    | zero => simp at h; subst h; simp [prs]
    | succ k =>
      simp at h
      have := ih h
      have e : prs (y :: ys) = (y.1 : Int) :: y.2 :: prs ys := by simp [prs]
      rw [e, show (k + 1) * 2 = k * 2 + 1 + 1 from by omega, show k * 2 + 1 + 1 + 1 = (k * 2 + 1) + 1 + 1 from rfl]
      simpa using this

set_option maxRecDepth 100000 in
set_option maxHeartbeats 2000000 in
theorem listed_i (w : World) (f : Fp) (s : ASt Int) (h : AMem Ki w f s) (l e : Int) (xs : List (Nat × Int)) (hx : Told s l e xs) (hm : s.made ≤ 4194304) :
    Calls Try.prog 16 #[.pointer (some ⟨f.ab, 0, none⟩), .int .i64 l, .int .i64 e] w fun en w' => ∃ v, en = .returned v ∧ w'.ownsRow w.heap.size 3 1 v (prs xs).length (ints (prs xs)) ∧ Below w.heap.size w w' := by
  have hlen : xs.length ≤ 4194304 := by have := hx.short; omega
  have hall := all_i (w.alloc (.cells #[.slice none 0 0] 35)) f s (h.alloc _) l e xs hx hm
  rw [World.size_alloc] at hall
  have HA := hide hall
  clear hall hx h
  obtain ⟨i0, hi, hz0, hz1, hz2⟩ := info_parts info3
  have heq := eqf (w.heap.size + 1)
  refine (callsIn_wide (n := 3)).1 ?_
  refine callsIn_of_wp_marks Try.func16 rfl trivial ?_ rfl
  simp only [Try.ntmps16, List.size_toArray, List.length_cons, List.length_nil, Nat.reduceAdd, Nat.reduceSub, Array.replicate_succ, Array.replicate_zero, List.push_toArray, List.append_toArray, List.nil_append, List.cons_append]
  gi_wp2_with (refine ⟨trivial, ?_⟩; gi_at_call 15; refine (callsIn_wide.2 HA.out).mono ?_; rintro en w1 ⟨v, rfl, hbx, hrow, hbl⟩)
  have bO : Boxed w1 w.heap.size 35 (.slice none 0 0) := (hbl.block _ (by omega)).trans (Boxed.new w 35 (.slice none 0 0))
  have hB0 : Below w.heap.size w w1 := ((Below.refl _ w).alloc (Nat.le_refl _) _).trans (hbl.mono (by omega))
  have hvl : ∀ g, v.ownBlock = some g → g < w1.heap.size := fun g hg => (hrow.lt g hg).2
  have hw1 : w.heap.size + 1 ≤ w1.heap.size := by have := hbl.size; simp at this; omega
  have hvb : ∀ g, v.ownBlock = some g → ¬ g = w.heap.size := fun g hg => by have := (hrow.lt g hg).1; omega
  refine wpIn_rangeFunc_ownG rfl (by omega) (gf := 38) (lb := #[.pointer (some ⟨w.heap.size + 1, 0, none⟩)]) rfl trivial (enters_of Try.func38 (by kernel_rfl) rfl)
    (all_stops Fence.wide (3 - 1) trivial rfl (by omega) (w.heap.size + 1) xs v w1 hlen hbx (own_rebase hrow (fun _ _ => Nat.zero_le _))) Kpt.trans (Kpt.b hvl) (Below.refl _ _) (fun _ => rfl)
    (fun pre W => (∃ u, Boxed W w.heap.size 35 u ∧ W.ownsRow w.heap.size 3 1 u (prs pre).length (ints (prs pre)) ∧ True) ∧ Below w.heap.size w W ∧ W.ownsRow (w.heap.size + 1 + 1) 79 2 v xs.length (rowCells xs))
    (fun _ _ _ => False) ?hI (fun _ _ _ _ _ hs _ _ => hs) ?h0
    (fun x => { tmps := #[.pointer (some ⟨f.ab, 0, none⟩), .int .i64 l, .int .i64 e, undef, undef, undef, .slice none 0 0, .pointer (some ⟨w.heap.size, 0, none⟩), .func (.func 38) #[] #[.pointer (some ⟨w.heap.size + 1, 0, none⟩)], .int .i64 (x.1 : Int), .int .i64 x.2, .pointer (some ⟨f.ab, 0, none⟩), .int .i64 l, .int .i64 e, .func (.func 38) #[] #[.pointer (some ⟨w.heap.size + 1, 0, none⟩)], .func (.func 38) #[] #[.pointer (some ⟨w.heap.size + 1, 0, none⟩)], .bool false, .func (.func 38) #[] #[.pointer (some ⟨w.heap.size + 1, 0, none⟩)], .int .i64 (x.1 : Int), .int .i64 x.2, undef, undef, undef, undef, undef, undef], defers := [] }) ?assign ?body ?done ?stop
  case hI =>
    refine OwnFrom.and (Own.from (holdsRow_own w.heap.size w.heap.size 35 3 1 (fun pre => (prs pre).length) (fun pre => ints (prs pre)) (fun _ _ => True)) _) (OwnFrom.and (ownFrom_below (Nat.le_refl _) (by omega)) ?_)
    intro s A B row hs hg hr
    exact own_turn hs hg (fun r e => (hr r e).2)
  case h0 => exact ⟨⟨_, bO, World.ownsRow_nil _ _ _ _, trivial⟩, hB0, hrow⟩
  case assign =>
    intro l x W K hK
    gi_wp2
    exact hK
  case body =>
    rintro l pre x W ⟨⟨u, hu, hrw, _⟩, hB, hvr⟩ hlt
    have hc := hu.cell
    have hpl := prs_len pre
    have hb1 : (prs pre).length + 2 ≤ maxLen := by unfold maxLen; omega
    have hb2 : ((prs pre).length + 2) * 8 ≤ 140737488355328 := by omega
    clear hpl
    have hul : ints (prs (pre ++ [x])) = ints (prs pre) ++ [.int .i64 (x.1 : Int), .int .i64 x.2] := by simp [prs, ints]
    have hul2 : (prs (pre ++ [x])).length = (prs pre).length + 2 := by simp [prs]
    have HU := hide hul
    have HU2 := hide hul2
    clear hul hul2
    gi_wp2_with (gi_at_builtin; refine wpListIn_append_own _ rfl _ _ 35 rfl w.heap.size 3 i0 (.int .i64 0) 1 8 Try.underlying35 hi hz0 hz1 hz2 rfl (by decide) _ _ _ rfl (hrw.alloc _) ⟨W.heap.size, 0, none⟩ 2 2 [.int .i64 (x.1 : Int), .int .i64 x.2] rfl rfl (cells_new _ _ _) (by simp [Value.oneCell']) hb1 hb2 (by have := hB.size; simp; omega) ?_; intro v' w2 hown' hgrow _; obtain ⟨g', cap', rfl⟩ := ownsRow_succ hown'; obtain ⟨hv1, hv2, hr2, hk2, hb3⟩ := hu.appended (by decide) hrw hB.size (Nat.le_refl _) hown' hgrow; have hc1 := hv1.cell; have hf1 := hv1.frozen)
    have hgrow' : (W.alloc (.cells #[.int .i64 (x.1 : Int), .int .i64 x.2] 3)).grownBy w2 u.ownBlock := hgrow
    have hvr2 : (w2.setCell ⟨w.heap.size, 0, none⟩ (.slice (some ⟨g', 0, none⟩) ((prs pre).length + 2) cap')).ownsRow (w.heap.size + 1 + 1) 79 2 v xs.length (rowCells xs) := by
      have h1 : w2.ownsRow (w.heap.size + 1 + 1) 79 2 v xs.length (rowCells xs) := (hvr.alloc _).kept hgrow' (by
        cases hv : u.ownBlock with
        | none => cases v.ownBlock <;> simp
        | some k => exact .inr (own_own_ne hrw hvr (by decide) hv))
      exact own_far (p := ⟨w.heap.size, 0, none⟩) h1 (own_blk_ne h1 hv1 (by decide)) _
    have hkp : Kpt v W (w2.setCell ⟨w.heap.size, 0, none⟩ (.slice (some ⟨g', 0, none⟩) ((prs pre).length + 2) cap')) := by
      refine Kpt.only (S := fun k => u.ownBlock = some k ∨ k = w.heap.size) ((((Only.refl _ W).alloc _).grown hgrow' (fun k hk => .inl (.inl hk))).setCell (.inl (.inr rfl)) _) ?_
      intro g hg
      refine ⟨(hvr.lt g hg).2, ?_⟩
      rintro (h1 | h1)
      · exact own_own_ne hrw hvr (by decide) h1 hg
      · have := (hvr.lt g hg).1; omega
    exact ⟨hk2.from _, hkp, ⟨⟨_, hv2, by rw [HU.out, HU2.out]; exact hr2, trivial⟩, hB.trans hb3, hvr2⟩⟩
  case done =>
    rintro D ys W hD rfl ⟨⟨u, hu, hrw, _⟩, hB, hvr⟩ hK
    have hc := hu.cell
    gi_wp2
    refine ⟨by simp, .inl ⟨_, _, rfl, run_takeDeferred hK, ?_⟩⟩
    exact ⟨_, results_tmp rfl _ _ _, u, rfl, ownsRow_putObj hrw _ hK rfl, hB.trans (belowK_b (w := w) (Nat.le_refl _) W D _ _ (by omega) hK rfl rfl)⟩
  case stop =>
    rintro D c pre W _ _ h _
    exact h.elim
end Go.Proofs.Ytbjmmfoklnhiiaa
