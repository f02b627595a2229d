/- The walk of the law's 'nodes': the nodes of a list, collected by a range over All. Conditions: the bounds that are named. -/
import Derived.Test.YtbjmmfoklnhiiaaW12
namespace Go.Proofs.Ytbjmmfoklnhiiaa
open Go.RowKit Go.Shelf
attribute [local go_sem] Oper.semAt_some

theorem info3 : (Try.prog.info? 3).map (fun i => (i.zero, i.size, i.bytes)) = some (some (.int .i64 0), 1, 8) := by kernel_rfl

def nums (xs : List (Nat × Int)) : List Value := xs.map fun x => .int .i64 (x.1 : Int)

theorem eqf (b : Nat) (W : World) : (binOp .eql 33 (.func (.func 38) #[] #[.pointer (some ⟨b, 0, none⟩)]) .nilFunc).run Try.prog W = .ok (.bool false) W := by kernel_rfl

/-- what is owned abides a turn of a block that holds no cells -/
theorem own_turn {X Y : World} {row : Option Nat} {base : Nat} {e : TypeId} {size : Nat} {v : Value} {n : Nat} {xs : List Value} (h : X.ownsRow base e size v n xs) (hg : X.grownBy Y row)
    (hr : ∀ r, row = some r → ∃ o : Obj, X.heap[r]? = some o ∧ o.isCells = false) : Y.ownsRow base e size v n xs := by
  refine h.kept hg ?_
  rcases h.2 with ⟨rfl, _⟩ | ⟨g, cap, cur, rfl, _, hgb, _⟩
  · exact .inl rfl
  · refine .inr fun e' => ?_
    obtain ⟨o, ho, hc⟩ := hr g (by simpa [Value.ownBlock] using e'.symm)
    rw [hgb] at ho; cases ho; cases hc

set_option maxRecDepth 100000 in
set_option maxHeartbeats 2000000 in
theorem nodes_i (w : World) (f : Fp) (s : ASt Int) (h : AMem Ki w f s) (l e : Int) (xs : List (Nat × Int)) (hx : Told s l e xs) (hm : s.made ≤ 4194304) :
    Calls Try.prog 26 #[.pointer (some ⟨f.ab, 0, none⟩), .int .i64 l, .int .i64 e] w fun en w' => ∃ v, en = .returned v ∧ w'.ownsRow w.heap.size 3 1 v xs.length (nums xs) ∧ Below w.heap.size w w' := by
  have hlen : xs.length ≤ 4194304 := by have := hx.short; omega
  have hall := all_i (w.alloc (.cells #[.slice none 0 0] 35)) f s (h.alloc _) l e xs hx hm
  rw [World.size_alloc] at hall
  have HA := hide hall
  clear hall hx h
  obtain ⟨i0, hi, hz0, hz1, hz2⟩ := info_parts info3
  have heq := eqf (w.heap.size + 1)
  refine (callsIn_wide (n := 3)).1 ?_
  refine callsIn_of_wp_marks Try.func26 rfl trivial ?_ rfl
  simp only [Try.ntmps26, List.size_toArray, List.length_cons, List.length_nil, Nat.reduceAdd, Nat.reduceSub, Array.replicate_succ, Array.replicate_zero, List.push_toArray, List.append_toArray, List.nil_append, List.cons_append]
  gi_wp2_with (refine ⟨trivial, ?_⟩; gi_at_call 15; refine (callsIn_wide.2 HA.out).mono ?_; rintro en w1 ⟨v, rfl, hbx, hrow, hbl⟩)
  have bO : Boxed w1 w.heap.size 35 (.slice none 0 0) := (hbl.block _ (by omega)).trans (Boxed.new w 35 (.slice none 0 0))
  have hB0 : Below w.heap.size w w1 := ((Below.refl _ w).alloc (Nat.le_refl _) _).trans (hbl.mono (by omega))
  have hvl : ∀ g, v.ownBlock = some g → g < w1.heap.size := fun g hg => (hrow.lt g hg).2
  have hw1 : w.heap.size + 1 ≤ w1.heap.size := by have := hbl.size; simp at this; omega
  have hvb : ∀ g, v.ownBlock = some g → ¬ g = w.heap.size := fun g hg => by have := (hrow.lt g hg).1; omega
  refine wpIn_rangeFunc_ownG rfl (by omega) (gf := 38) (lb := #[.pointer (some ⟨w.heap.size + 1, 0, none⟩)]) rfl trivial (enters_of Try.func38 (by kernel_rfl) rfl)
    (all_stops Fence.wide (3 - 1) trivial rfl (by omega) (w.heap.size + 1) xs v w1 hlen hbx (own_rebase hrow (fun _ _ => Nat.zero_le _))) Kpt.trans (Kpt.b hvl) (Below.refl _ _) (fun _ => rfl)
    (fun pre W => (∃ u, Boxed W w.heap.size 35 u ∧ W.ownsRow w.heap.size 3 1 u pre.length (nums pre) ∧ True) ∧ Below w.heap.size w W ∧ W.ownsRow (w.heap.size + 1 + 1) 79 2 v xs.length (rowCells xs))
    (fun _ _ _ => False) ?hI (fun _ _ _ _ _ hs _ _ => hs) ?h0
    (fun x => { tmps := #[.pointer (some ⟨f.ab, 0, none⟩), .int .i64 l, .int .i64 e, undef, undef, undef, .slice none 0 0, .pointer (some ⟨w.heap.size, 0, none⟩), .func (.func 38) #[] #[.pointer (some ⟨w.heap.size + 1, 0, none⟩)], .int .i64 (x.1 : Int), .pointer (some ⟨f.ab, 0, none⟩), .int .i64 l, .int .i64 e, .func (.func 38) #[] #[.pointer (some ⟨w.heap.size + 1, 0, none⟩)], .func (.func 38) #[] #[.pointer (some ⟨w.heap.size + 1, 0, none⟩)], .bool false, .func (.func 38) #[] #[.pointer (some ⟨w.heap.size + 1, 0, none⟩)], .int .i64 (x.1 : Int), .int .i64 x.2, undef, undef, undef, undef, undef], defers := [] }) ?assign ?body ?done ?stop
  case hI =>
    refine OwnFrom.and (Own.from (holdsRow_own w.heap.size w.heap.size 35 3 1 (fun pre => pre.length) (fun pre => nums pre) (fun _ _ => True)) _) (OwnFrom.and (ownFrom_below (Nat.le_refl _) (by omega)) ?_)
    intro s A B row hs hg hr
    exact own_turn hs hg (fun r e => (hr r e).2)
  case h0 => exact ⟨⟨_, bO, World.ownsRow_nil _ _ _ _, trivial⟩, hB0, hrow⟩
  case assign =>
    intro l x W K hK
    gi_wp2
    exact hK
  case body =>
    rintro l pre x W ⟨⟨u, hu, hrw, _⟩, hB, hvr⟩ hlt
    have hc := hu.cell
    have hb1 : pre.length + 1 ≤ maxLen := by unfold maxLen; omega
    have hb2 : (pre.length + 1) * 8 ≤ 140737488355328 := by omega
    have hul : nums (pre ++ [x]) = nums pre ++ [.int .i64 (x.1 : Int)] := by simp [nums]
    have HU := hide hul
    clear hul
    gi_wp2_with (gi_at_builtin; refine wpListIn_append_own _ rfl _ _ 35 rfl w.heap.size 3 i0 (.int .i64 0) 1 8 Try.underlying35 hi hz0 hz1 hz2 rfl (by decide) _ _ _ rfl (hrw.alloc _) ⟨W.heap.size, 0, none⟩ 1 1 [.int .i64 (x.1 : Int)] rfl rfl (cell_one_new _ _ _) (by simp [Value.oneCell']) hb1 hb2 (by have := hB.size; simp; omega) ?_; intro v' w2 hown' hgrow _; obtain ⟨g', cap', rfl⟩ := ownsRow_succ hown'; obtain ⟨hv1, hv2, hr2, hk2, hb3⟩ := hu.appended (by decide) hrw hB.size (Nat.le_refl _) hown' hgrow; have hc1 := hv1.cell; have hf1 := hv1.frozen)
    have hgrow' : (W.alloc (.cells #[.int .i64 (x.1 : Int)] 3)).grownBy w2 u.ownBlock := hgrow
    have hvr2 : (w2.setCell ⟨w.heap.size, 0, none⟩ (.slice (some ⟨g', 0, none⟩) (pre.length + 1) cap')).ownsRow (w.heap.size + 1 + 1) 79 2 v xs.length (rowCells xs) := by
      have h1 : w2.ownsRow (w.heap.size + 1 + 1) 79 2 v xs.length (rowCells xs) := (hvr.alloc _).kept hgrow' (by
        cases hv : u.ownBlock with
        | none => cases v.ownBlock <;> simp
        | some k => exact .inr (own_own_ne hrw hvr (by decide) hv))
      exact own_far (p := ⟨w.heap.size, 0, none⟩) h1 (own_blk_ne h1 hv1 (by decide)) _
    have hkp : Kpt v W (w2.setCell ⟨w.heap.size, 0, none⟩ (.slice (some ⟨g', 0, none⟩) (pre.length + 1) cap')) := by
      refine Kpt.only (S := fun k => u.ownBlock = some k ∨ k = w.heap.size) ((((Only.refl _ W).alloc _).grown hgrow' (fun k hk => .inl (.inl hk))).setCell (.inl (.inr rfl)) _) ?_
      intro g hg
      refine ⟨(hvr.lt g hg).2, ?_⟩
      rintro (h1 | h1)
      · exact own_own_ne hrw hvr (by decide) h1 hg
      · have := (hvr.lt g hg).1; omega
    exact ⟨hk2.from _, hkp, ⟨⟨_, hv2, by rw [HU.out]; simpa using hr2, trivial⟩, hB.trans hb3, hvr2⟩⟩
  case done =>
    rintro D ys W hD rfl ⟨⟨u, hu, hrw, _⟩, hB, hvr⟩ hK
    have hc := hu.cell
    gi_wp2
    refine ⟨by simp, .inl ⟨_, _, rfl, run_takeDeferred hK, ?_⟩⟩
    exact ⟨_, results_tmp rfl _ _ _, u, rfl, ownsRow_putObj hrw _ hK rfl, hB.trans (belowK_b (w := w) (Nat.le_refl _) W D _ _ (by omega) hK rfl rfl)⟩
  case stop =>
    rintro D c pre W _ _ h _
    exact h.elim
end Go.Proofs.Ytbjmmfoklnhiiaa
