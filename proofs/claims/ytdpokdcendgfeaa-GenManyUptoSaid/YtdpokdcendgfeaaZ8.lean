/- Several texts in one: The walk of numbers at the kinds that look at ghosts. Conditions: those of each. -/
import Derived.Test.YtdpokdcendgfeaaZ7
import Derived.Deep.RegionWith
set_option linter.unusedSimpArgs false
set_option linter.unusedVariables false
set_option maxHeartbeats 40000000
namespace Go.Proofs.Ytdpokdcendgfeaa
open Go.RowKit
set_option maxRecDepth 100000 in
theorem numbers_k7 (w : World) (g : Nat) (q : PlV) (P : Pl) (ra : Option Addr) (rl rc i : Nat) (x : Ac) (h : Ck w g q P ra rl rc i) (hx : x.k = 7) :
   Calls Try.prog 102 #[.pointer (some ⟨g, 0, none⟩), x.val] w fun en w' => en = .returned (.bool (numV P x)) ∧ Below w.heap.size w w' := by
 obtain ⟨k, a, b, c, d, n⟩ := x
 simp only at hx
 subst hx
 obtain ⟨hk, e1, e2, e3, hs, l1, l2, l3⟩ := h
 obtain ⟨ga, va, ta, oa, ma, gl, gc, vl, vc, tl, tc, ol, oc, ml, mc⟩ := q
 simp only at e1 e2 e3 hs
 subst e1 e2 e3
 have HQ0 := fun (W : World) (y : Int) (hb : Below w.heap.size w W) => hide ((queue_i W g _ ra rl rc i y (hk.below hb hk.lt) l1).mono (fun en w' hh => (⟨hh.1, hh.2.symm⟩ : en = .returned (.bool (fromV y 0 ((P.gh.length : Int) - 1))) ∧ w' = W)))
 have HF := fun (W : World) (y lo hi : Int) => hide ((from_i W y lo hi).mono (fun en w' hh => (⟨hh.1, hh.2.symm⟩ : en = .returned (.bool (fromV y lo hi)) ∧ w' = W)))
 obtain ⟨nv, hnv⟩ : ∃ nv, numV P ⟨7, a, b, c, d, n⟩ = nv := ⟨_, rfl⟩
 rw [hnv]
 have HNV := hide hnv
 clear hnv
 have HQA := fun (W : World) (hb : Below w.heap.size w W) => HQ0 W a hb
 have HQC := fun (W : World) (hb : Below w.heap.size w W) => HQ0 W c hb
 clear HQ0
 unfold maxLen at l1 l2 l3
 simp only [Ac.val]
 have hlt := hk.lt
 obtain ⟨ce0, ce1, ce2⟩ := ck_cells hk (.cells #[.int .i64 7, .int .i64 a, .int .i64 b, .int .i64 c, .int .i64 d, .int .i64 n] 49)
 have u1 := IntWalk.i64_in ((P.gh.length : Int) - 1) (by omega)
 have u2 := IntWalk.i64_in ((P.vs.length : Int) - 1) (by omega)
 have u3 := IntWalk.i64_in ((P.ts.length : Int) - 1) (by omega)
 go_enter Try.func102, Try.ntmps102
 go_wp2_with fail
 cases hqa : fromV a 0 ((P.gh.length : Int) - 1) with
 | true =>
   simp only [hqa] at HQA
   obtain ⟨ada, ea, hadla, h0a, h1a, hca⟩ := gh_at (a := a) hs hqa
   subst ea
   have hxa : (w.alloc (.cells #[.int .i64 7, .int .i64 a, .int .i64 b, .int .i64 c, .int .i64 d, .int .i64 n] 49)).cell? (ada.add a.toNat) = some (.bool (ghV P.gh a)) := (World.cell?_alloc_lt w _ _ (by rw [add_block]; exact hadla)).trans hca
   by_cases hc : c = 0
   case' pos => subst hc
   case' neg =>
     have hc1 : (c == 0) = false := by simp [hc]
     have hc2 : decide (c = 0) = false := by simp [hc]
   all_goals
     go_quiet (fail)
     go_wp2_with (first | (go_at_call 63; refine (HF _ _ _ _).out.mono ?_; rintro en w1 ⟨rfl, rfl⟩) | (go_at_call 135; refine (HQA _ (bD _ _ _)).out.mono ?_; rintro en w1 ⟨rfl, rfl⟩))
     all_goals try (go_quiet (first | (go_at_call 63; exact quiet_nn (HF _ _ _ _).out) | (go_at_call 135; exact quiet_nn (HQA _ (bD _ _ _)).out) | (go_at_call 135; exact quiet_nn (HQC _ (bD _ _ _)).out)); go_wp2_with (first | (go_at_call 63; refine (HF _ _ _ _).out.mono ?_; rintro en w1 ⟨rfl, rfl⟩) | (go_at_call 135; refine (HQA _ (bD _ _ _)).out.mono ?_; rintro en w1 ⟨rfl, rfl⟩)))
     all_goals try (go_quiet (first | (go_at_call 63; exact quiet_nn (HF _ _ _ _).out) | (go_at_call 135; exact quiet_nn (HQA _ (bD _ _ _)).out) | (go_at_call 135; exact quiet_nn (HQC _ (bD _ _ _)).out)); go_wp2_with (first | (go_at_call 63; refine (HF _ _ _ _).out.mono ?_; rintro en w1 ⟨rfl, rfl⟩) | (go_at_call 135; refine (HQA _ (bD _ _ _)).out.mono ?_; rintro en w1 ⟨rfl, rfl⟩)))
     all_goals
       go_ret
       refine ⟨?_, ?_⟩
       · rw [← HNV.out]
         congr 2
         simp [numV, qV, *]
         try (rw [Bool.eq_iff_iff]; simp; done)
       · first | exact bA _ _ | exact bD _ _ _
 | false =>
   simp only [hqa] at HQA
   by_cases hc : c = 0
   case' pos => subst hc
   case' neg =>
     have hc1 : (c == 0) = false := by simp [hc]
     have hc2 : decide (c = 0) = false := by simp [hc]
   all_goals
     go_quiet (fail)
     go_wp2_with (first | (go_at_call 63; refine (HF _ _ _ _).out.mono ?_; rintro en w1 ⟨rfl, rfl⟩) | (go_at_call 135; refine (HQA _ (bD _ _ _)).out.mono ?_; rintro en w1 ⟨rfl, rfl⟩))
     all_goals try (go_quiet (first | (go_at_call 63; exact quiet_nn (HF _ _ _ _).out) | (go_at_call 135; exact quiet_nn (HQA _ (bD _ _ _)).out) | (go_at_call 135; exact quiet_nn (HQC _ (bD _ _ _)).out)); go_wp2_with (first | (go_at_call 63; refine (HF _ _ _ _).out.mono ?_; rintro en w1 ⟨rfl, rfl⟩) | (go_at_call 135; refine (HQA _ (bD _ _ _)).out.mono ?_; rintro en w1 ⟨rfl, rfl⟩)))
     all_goals try (go_quiet (first | (go_at_call 63; exact quiet_nn (HF _ _ _ _).out) | (go_at_call 135; exact quiet_nn (HQA _ (bD _ _ _)).out) | (go_at_call 135; exact quiet_nn (HQC _ (bD _ _ _)).out)); go_wp2_with (first | (go_at_call 63; refine (HF _ _ _ _).out.mono ?_; rintro en w1 ⟨rfl, rfl⟩) | (go_at_call 135; refine (HQA _ (bD _ _ _)).out.mono ?_; rintro en w1 ⟨rfl, rfl⟩)))
     all_goals
       go_ret
       refine ⟨?_, ?_⟩
       · rw [← HNV.out]
         congr 2
         simp [numV, qV, *]
         try (rw [Bool.eq_iff_iff]; simp; done)
       · first | exact bA _ _ | exact bD _ _ _
set_option maxRecDepth 100000 in
theorem numbers_k15 (w : World) (g : Nat) (q : PlV) (P : Pl) (ra : Option Addr) (rl rc i : Nat) (x : Ac) (h : Ck w g q P ra rl rc i) (hx : x.k = 15) :
   Calls Try.prog 102 #[.pointer (some ⟨g, 0, none⟩), x.val] w fun en w' => en = .returned (.bool (numV P x)) ∧ Below w.heap.size w w' := by
 obtain ⟨k, a, b, c, d, n⟩ := x
 simp only at hx
 subst hx
 obtain ⟨hk, e1, e2, e3, hs, l1, l2, l3⟩ := h
 obtain ⟨ga, va, ta, oa, ma, gl, gc, vl, vc, tl, tc, ol, oc, ml, mc⟩ := q
 simp only at e1 e2 e3 hs
 subst e1 e2 e3
 have HQ0 := fun (W : World) (y : Int) (hb : Below w.heap.size w W) => hide ((queue_i W g _ ra rl rc i y (hk.below hb hk.lt) l1).mono (fun en w' hh => (⟨hh.1, hh.2.symm⟩ : en = .returned (.bool (fromV y 0 ((P.gh.length : Int) - 1))) ∧ w' = W)))
 have HF := fun (W : World) (y lo hi : Int) => hide ((from_i W y lo hi).mono (fun en w' hh => (⟨hh.1, hh.2.symm⟩ : en = .returned (.bool (fromV y lo hi)) ∧ w' = W)))
 obtain ⟨nv, hnv⟩ : ∃ nv, numV P ⟨15, a, b, c, d, n⟩ = nv := ⟨_, rfl⟩
 rw [hnv]
 have HNV := hide hnv
 clear hnv
 have HQA := fun (W : World) (hb : Below w.heap.size w W) => HQ0 W a hb
 have HQC := fun (W : World) (hb : Below w.heap.size w W) => HQ0 W c hb
 clear HQ0
 unfold maxLen at l1 l2 l3
 simp only [Ac.val]
 have hlt := hk.lt
 obtain ⟨ce0, ce1, ce2⟩ := ck_cells hk (.cells #[.int .i64 15, .int .i64 a, .int .i64 b, .int .i64 c, .int .i64 d, .int .i64 n] 49)
 have u1 := IntWalk.i64_in ((P.gh.length : Int) - 1) (by omega)
 have u2 := IntWalk.i64_in ((P.vs.length : Int) - 1) (by omega)
 have u3 := IntWalk.i64_in ((P.ts.length : Int) - 1) (by omega)
 go_enter Try.func102, Try.ntmps102
 go_wp2_with fail
 cases hqa : fromV a 0 ((P.gh.length : Int) - 1) with
 | true =>
   simp only [hqa] at HQA
   obtain ⟨ada, ea, hadla, h0a, h1a, hca⟩ := gh_at (a := a) hs hqa
   subst ea
   have hxa : (w.alloc (.cells #[.int .i64 15, .int .i64 a, .int .i64 b, .int .i64 c, .int .i64 d, .int .i64 n] 49)).cell? (ada.add a.toNat) = some (.bool (ghV P.gh a)) := (World.cell?_alloc_lt w _ _ (by rw [add_block]; exact hadla)).trans hca
   by_cases hc : c = 0
   case' pos => subst hc
   case' neg =>
     have hc1 : (c == 0) = false := by simp [hc]
     have hc2 : decide (c = 0) = false := by simp [hc]
   all_goals
     go_quiet (fail)
     go_wp2_with (first | (go_at_call 63; refine (HF _ _ _ _).out.mono ?_; rintro en w1 ⟨rfl, rfl⟩) | (go_at_call 135; refine (HQA _ (bD _ _ _)).out.mono ?_; rintro en w1 ⟨rfl, rfl⟩))
     all_goals try (go_quiet (first | (go_at_call 63; exact quiet_nn (HF _ _ _ _).out) | (go_at_call 135; exact quiet_nn (HQA _ (bD _ _ _)).out) | (go_at_call 135; exact quiet_nn (HQC _ (bD _ _ _)).out)); go_wp2_with (first | (go_at_call 63; refine (HF _ _ _ _).out.mono ?_; rintro en w1 ⟨rfl, rfl⟩) | (go_at_call 135; refine (HQA _ (bD _ _ _)).out.mono ?_; rintro en w1 ⟨rfl, rfl⟩)))
     all_goals try (go_quiet (first | (go_at_call 63; exact quiet_nn (HF _ _ _ _).out) | (go_at_call 135; exact quiet_nn (HQA _ (bD _ _ _)).out) | (go_at_call 135; exact quiet_nn (HQC _ (bD _ _ _)).out)); go_wp2_with (first | (go_at_call 63; refine (HF _ _ _ _).out.mono ?_; rintro en w1 ⟨rfl, rfl⟩) | (go_at_call 135; refine (HQA _ (bD _ _ _)).out.mono ?_; rintro en w1 ⟨rfl, rfl⟩)))
     all_goals
       go_ret
       refine ⟨?_, ?_⟩
       · rw [← HNV.out]
         congr 2
         simp [numV, qV, *]
         try (rw [Bool.eq_iff_iff]; simp; done)
       · first | exact bA _ _ | exact bD _ _ _
 | false =>
   simp only [hqa] at HQA
   by_cases hc : c = 0
   case' pos => subst hc
   case' neg =>
     have hc1 : (c == 0) = false := by simp [hc]
     have hc2 : decide (c = 0) = false := by simp [hc]
   all_goals
     go_quiet (fail)
     go_wp2_with (first | (go_at_call 63; refine (HF _ _ _ _).out.mono ?_; rintro en w1 ⟨rfl, rfl⟩) | (go_at_call 135; refine (HQA _ (bD _ _ _)).out.mono ?_; rintro en w1 ⟨rfl, rfl⟩))
     all_goals try (go_quiet (first | (go_at_call 63; exact quiet_nn (HF _ _ _ _).out) | (go_at_call 135; exact quiet_nn (HQA _ (bD _ _ _)).out) | (go_at_call 135; exact quiet_nn (HQC _ (bD _ _ _)).out)); go_wp2_with (first | (go_at_call 63; refine (HF _ _ _ _).out.mono ?_; rintro en w1 ⟨rfl, rfl⟩) | (go_at_call 135; refine (HQA _ (bD _ _ _)).out.mono ?_; rintro en w1 ⟨rfl, rfl⟩)))
     all_goals try (go_quiet (first | (go_at_call 63; exact quiet_nn (HF _ _ _ _).out) | (go_at_call 135; exact quiet_nn (HQA _ (bD _ _ _)).out) | (go_at_call 135; exact quiet_nn (HQC _ (bD _ _ _)).out)); go_wp2_with (first | (go_at_call 63; refine (HF _ _ _ _).out.mono ?_; rintro en w1 ⟨rfl, rfl⟩) | (go_at_call 135; refine (HQA _ (bD _ _ _)).out.mono ?_; rintro en w1 ⟨rfl, rfl⟩)))
     all_goals
       go_ret
       refine ⟨?_, ?_⟩
       · rw [← HNV.out]
         congr 2
         simp [numV, qV, *]
         try (rw [Bool.eq_iff_iff]; simp; done)
       · first | exact bA _ _ | exact bD _ _ _
set_option maxRecDepth 100000 in
theorem numbers_k16 (w : World) (g : Nat) (q : PlV) (P : Pl) (ra : Option Addr) (rl rc i : Nat) (x : Ac) (h : Ck w g q P ra rl rc i) (hx : x.k = 16) :
   Calls Try.prog 102 #[.pointer (some ⟨g, 0, none⟩), x.val] w fun en w' => en = .returned (.bool (numV P x)) ∧ Below w.heap.size w w' := by
 obtain ⟨k, a, b, c, d, n⟩ := x
 simp only at hx
 subst hx
 obtain ⟨hk, e1, e2, e3, hs, l1, l2, l3⟩ := h
 obtain ⟨ga, va, ta, oa, ma, gl, gc, vl, vc, tl, tc, ol, oc, ml, mc⟩ := q
 simp only at e1 e2 e3 hs
 subst e1 e2 e3
 have HQ0 := fun (W : World) (y : Int) (hb : Below w.heap.size w W) => hide ((queue_i W g _ ra rl rc i y (hk.below hb hk.lt) l1).mono (fun en w' hh => (⟨hh.1, hh.2.symm⟩ : en = .returned (.bool (fromV y 0 ((P.gh.length : Int) - 1))) ∧ w' = W)))
 have HF := fun (W : World) (y lo hi : Int) => hide ((from_i W y lo hi).mono (fun en w' hh => (⟨hh.1, hh.2.symm⟩ : en = .returned (.bool (fromV y lo hi)) ∧ w' = W)))
 obtain ⟨nv, hnv⟩ : ∃ nv, numV P ⟨16, a, b, c, d, n⟩ = nv := ⟨_, rfl⟩
 rw [hnv]
 have HNV := hide hnv
 clear hnv
 have HQA := fun (W : World) (hb : Below w.heap.size w W) => HQ0 W a hb
 have HQC := fun (W : World) (hb : Below w.heap.size w W) => HQ0 W c hb
 clear HQ0
 unfold maxLen at l1 l2 l3
 simp only [Ac.val]
 have hlt := hk.lt
 obtain ⟨ce0, ce1, ce2⟩ := ck_cells hk (.cells #[.int .i64 16, .int .i64 a, .int .i64 b, .int .i64 c, .int .i64 d, .int .i64 n] 49)
 have u1 := IntWalk.i64_in ((P.gh.length : Int) - 1) (by omega)
 have u2 := IntWalk.i64_in ((P.vs.length : Int) - 1) (by omega)
 have u3 := IntWalk.i64_in ((P.ts.length : Int) - 1) (by omega)
 go_enter Try.func102, Try.ntmps102
 go_wp2_with fail
 cases hqa : fromV a 0 ((P.gh.length : Int) - 1) with
 | true =>
   simp only [hqa] at HQA
   obtain ⟨ada, ea, hadla, h0a, h1a, hca⟩ := gh_at (a := a) hs hqa
   subst ea
   have hxa : (w.alloc (.cells #[.int .i64 16, .int .i64 a, .int .i64 b, .int .i64 c, .int .i64 d, .int .i64 n] 49)).cell? (ada.add a.toNat) = some (.bool (ghV P.gh a)) := (World.cell?_alloc_lt w _ _ (by rw [add_block]; exact hadla)).trans hca
   by_cases hc : c = 0
   case' pos => subst hc
   case' neg =>
     have hc1 : (c == 0) = false := by simp [hc]
     have hc2 : decide (c = 0) = false := by simp [hc]
   all_goals
     go_quiet (fail)
     go_wp2_with (first | (go_at_call 63; refine (HF _ _ _ _).out.mono ?_; rintro en w1 ⟨rfl, rfl⟩) | (go_at_call 135; refine (HQA _ (bD _ _ _)).out.mono ?_; rintro en w1 ⟨rfl, rfl⟩))
     all_goals try (go_quiet (first | (go_at_call 63; exact quiet_nn (HF _ _ _ _).out) | (go_at_call 135; exact quiet_nn (HQA _ (bD _ _ _)).out) | (go_at_call 135; exact quiet_nn (HQC _ (bD _ _ _)).out)); go_wp2_with (first | (go_at_call 63; refine (HF _ _ _ _).out.mono ?_; rintro en w1 ⟨rfl, rfl⟩) | (go_at_call 135; refine (HQA _ (bD _ _ _)).out.mono ?_; rintro en w1 ⟨rfl, rfl⟩)))
     all_goals try (go_quiet (first | (go_at_call 63; exact quiet_nn (HF _ _ _ _).out) | (go_at_call 135; exact quiet_nn (HQA _ (bD _ _ _)).out) | (go_at_call 135; exact quiet_nn (HQC _ (bD _ _ _)).out)); go_wp2_with (first | (go_at_call 63; refine (HF _ _ _ _).out.mono ?_; rintro en w1 ⟨rfl, rfl⟩) | (go_at_call 135; refine (HQA _ (bD _ _ _)).out.mono ?_; rintro en w1 ⟨rfl, rfl⟩)))
     all_goals
       go_ret
       refine ⟨?_, ?_⟩
       · rw [← HNV.out]
         congr 2
         simp [numV, qV, *]
         try (rw [Bool.eq_iff_iff]; simp; done)
       · first | exact bA _ _ | exact bD _ _ _
 | false =>
   simp only [hqa] at HQA
   by_cases hc : c = 0
   case' pos => subst hc
   case' neg =>
     have hc1 : (c == 0) = false := by simp [hc]
     have hc2 : decide (c = 0) = false := by simp [hc]
   all_goals
     go_quiet (fail)
     go_wp2_with (first | (go_at_call 63; refine (HF _ _ _ _).out.mono ?_; rintro en w1 ⟨rfl, rfl⟩) | (go_at_call 135; refine (HQA _ (bD _ _ _)).out.mono ?_; rintro en w1 ⟨rfl, rfl⟩))
     all_goals try (go_quiet (first | (go_at_call 63; exact quiet_nn (HF _ _ _ _).out) | (go_at_call 135; exact quiet_nn (HQA _ (bD _ _ _)).out) | (go_at_call 135; exact quiet_nn (HQC _ (bD _ _ _)).out)); go_wp2_with (first | (go_at_call 63; refine (HF _ _ _ _).out.mono ?_; rintro en w1 ⟨rfl, rfl⟩) | (go_at_call 135; refine (HQA _ (bD _ _ _)).out.mono ?_; rintro en w1 ⟨rfl, rfl⟩)))
     all_goals try (go_quiet (first | (go_at_call 63; exact quiet_nn (HF _ _ _ _).out) | (go_at_call 135; exact quiet_nn (HQA _ (bD _ _ _)).out) | (go_at_call 135; exact quiet_nn (HQC _ (bD _ _ _)).out)); go_wp2_with (first | (go_at_call 63; refine (HF _ _ _ _).out.mono ?_; rintro en w1 ⟨rfl, rfl⟩) | (go_at_call 135; refine (HQA _ (bD _ _ _)).out.mono ?_; rintro en w1 ⟨rfl, rfl⟩)))
     all_goals
       go_ret
       refine ⟨?_, ?_⟩
       · rw [← HNV.out]
         congr 2
         simp [numV, qV, *]
         try (rw [Bool.eq_iff_iff]; simp; done)
       · first | exact bA _ _ | exact bD _ _ _
set_option maxRecDepth 100000 in
theorem numbers_k13 (w : World) (g : Nat) (q : PlV) (P : Pl) (ra : Option Addr) (rl rc i : Nat) (x : Ac) (h : Ck w g q P ra rl rc i) (hx : x.k = 13) :
   Calls Try.prog 102 #[.pointer (some ⟨g, 0, none⟩), x.val] w fun en w' => en = .returned (.bool (numV P x)) ∧ Below w.heap.size w w' := by
 obtain ⟨k, a, b, c, d, n⟩ := x
 simp only at hx
 subst hx
 obtain ⟨hk, e1, e2, e3, hs, l1, l2, l3⟩ := h
 obtain ⟨ga, va, ta, oa, ma, gl, gc, vl, vc, tl, tc, ol, oc, ml, mc⟩ := q
 simp only at e1 e2 e3 hs
 subst e1 e2 e3
 have HQ0 := fun (W : World) (y : Int) (hb : Below w.heap.size w W) => hide ((queue_i W g _ ra rl rc i y (hk.below hb hk.lt) l1).mono (fun en w' hh => (⟨hh.1, hh.2.symm⟩ : en = .returned (.bool (fromV y 0 ((P.gh.length : Int) - 1))) ∧ w' = W)))
 have HF := fun (W : World) (y lo hi : Int) => hide ((from_i W y lo hi).mono (fun en w' hh => (⟨hh.1, hh.2.symm⟩ : en = .returned (.bool (fromV y lo hi)) ∧ w' = W)))
 obtain ⟨nv, hnv⟩ : ∃ nv, numV P ⟨13, a, b, c, d, n⟩ = nv := ⟨_, rfl⟩
 rw [hnv]
 have HNV := hide hnv
 clear hnv
 have HQA := fun (W : World) (hb : Below w.heap.size w W) => HQ0 W a hb
 have HQC := fun (W : World) (hb : Below w.heap.size w W) => HQ0 W c hb
 clear HQ0
 unfold maxLen at l1 l2 l3
 simp only [Ac.val]
 have hlt := hk.lt
 obtain ⟨ce0, ce1, ce2⟩ := ck_cells hk (.cells #[.int .i64 13, .int .i64 a, .int .i64 b, .int .i64 c, .int .i64 d, .int .i64 n] 49)
 have u1 := IntWalk.i64_in ((P.gh.length : Int) - 1) (by omega)
 have u2 := IntWalk.i64_in ((P.vs.length : Int) - 1) (by omega)
 have u3 := IntWalk.i64_in ((P.ts.length : Int) - 1) (by omega)
 go_enter Try.func102, Try.ntmps102
 go_wp2_with fail
 have HFB := fun (W : World) => HF W b 0 1
 have HFD := fun (W : World) => HF W d 0 1
 cases hqa : fromV a 0 ((P.gh.length : Int) - 1) with
 | true =>
   simp only [hqa] at HQA
   cases hbb : fromV b 0 1 with
   | true =>
     simp only [hbb] at HFB
     cases hqc : fromV c 0 ((P.gh.length : Int) - 1) with
     | true =>
       simp only [hqc] at HQC
       cases hdd : fromV d 0 1 with
       | true =>
         simp only [hdd] at HFD
         obtain ⟨ada, ea, hadla, h0a, h1a, hca⟩ := gh_at (a := a) hs hqa
         subst ea
         have hxa : (w.alloc (.cells #[.int .i64 13, .int .i64 a, .int .i64 b, .int .i64 c, .int .i64 d, .int .i64 n] 49)).cell? (ada.add a.toNat) = some (.bool (ghV P.gh a)) := (World.cell?_alloc_lt w _ _ (by rw [add_block]; exact hadla)).trans hca
         obtain ⟨adc, ec, hadlc, h0c, h1c, hcc⟩ := gh_at (a := c) hs hqc
         have e2c : ada = adc := by injection ec
         subst e2c
         clear ec
         have hxc : (w.alloc (.cells #[.int .i64 13, .int .i64 a, .int .i64 b, .int .i64 c, .int .i64 d, .int .i64 n] 49)).cell? (ada.add c.toNat) = some (.bool (ghV P.gh c)) := (World.cell?_alloc_lt w _ _ (by rw [add_block]; exact hadlc)).trans hcc
         by_cases hc : c = 0
         case' pos =>
           have hc1 : (c == 0) = true := by simp [hc]
           have hc2 : decide (c = 0) = true := by simp [hc]
           clear hc
         case' neg =>
           have hc1 : (c == 0) = false := by simp [hc]
           have hc2 : decide (c = 0) = false := by simp [hc]
           clear hc
         all_goals
           go_quiet (fail)
           go_wp2_with fail
           go_quiet (first | (go_at_call_of 63 (Value.int .i64 b); exact quiet_nn (HFB _).out) | (go_at_call_of 63 (Value.int .i64 d); exact quiet_nn (HFD _).out) | (go_at_call_of 135 (Value.int .i64 a); exact quiet_nn (HQA _ (bD _ _ _)).out) | (go_at_call_of 135 (Value.int .i64 c); exact quiet_nn (HQC _ (bD _ _ _)).out))
           go_wp2_with fail
           go_quiet (fail)
           go_wp2_with fail
           all_goals
             go_ret
             refine ⟨?_, ?_⟩
             · rw [← HNV.out]
               congr 2
               simp [numV, qV, *]
               try (rw [Bool.eq_iff_iff]; simp; done)
             · first | exact below_drewN (below_drewN (bD _ _ _) _) _ | exact bA _ _ | exact bD _ _ _
       | false =>
         simp only [hdd] at HFD
         by_cases hc : c = 0
         case' pos =>
           have hc1 : (c == 0) = true := by simp [hc]
           have hc2 : decide (c = 0) = true := by simp [hc]
           clear hc
         case' neg =>
           have hc1 : (c == 0) = false := by simp [hc]
           have hc2 : decide (c = 0) = false := by simp [hc]
           clear hc
         all_goals
           go_quiet (fail)
           go_wp2_with fail
           go_quiet (first | (go_at_call_of 63 (Value.int .i64 b); exact quiet_nn (HFB _).out) | (go_at_call_of 63 (Value.int .i64 d); exact quiet_nn (HFD _).out) | (go_at_call_of 135 (Value.int .i64 a); exact quiet_nn (HQA _ (bD _ _ _)).out) | (go_at_call_of 135 (Value.int .i64 c); exact quiet_nn (HQC _ (bD _ _ _)).out))
           go_wp2_with fail
           go_quiet (fail)
           go_wp2_with fail
           all_goals
             go_ret
             refine ⟨?_, ?_⟩
             · rw [← HNV.out]
               congr 2
               simp [numV, qV, *]
               try (rw [Bool.eq_iff_iff]; simp; done)
             · first | exact below_drewN (below_drewN (bD _ _ _) _) _ | exact bA _ _ | exact bD _ _ _
     | false =>
       simp only [hqc] at HQC
       by_cases hc : c = 0
       case' pos =>
         have hc1 : (c == 0) = true := by simp [hc]
         have hc2 : decide (c = 0) = true := by simp [hc]
         clear hc
       case' neg =>
         have hc1 : (c == 0) = false := by simp [hc]
         have hc2 : decide (c = 0) = false := by simp [hc]
         clear hc
       all_goals
         go_quiet (fail)
         go_wp2_with fail
         go_quiet (first | (go_at_call_of 63 (Value.int .i64 b); exact quiet_nn (HFB _).out) | (go_at_call_of 63 (Value.int .i64 d); exact quiet_nn (HFD _).out) | (go_at_call_of 135 (Value.int .i64 a); exact quiet_nn (HQA _ (bD _ _ _)).out) | (go_at_call_of 135 (Value.int .i64 c); exact quiet_nn (HQC _ (bD _ _ _)).out))
         go_wp2_with fail
         go_quiet (fail)
         go_wp2_with fail
         all_goals
           go_ret
           refine ⟨?_, ?_⟩
           · rw [← HNV.out]
             congr 2
             simp [numV, qV, *]
             try (rw [Bool.eq_iff_iff]; simp; done)
           · first | exact below_drewN (below_drewN (bD _ _ _) _) _ | exact bA _ _ | exact bD _ _ _
   | false =>
     simp only [hbb] at HFB
     cases hqc : fromV c 0 ((P.gh.length : Int) - 1)
     all_goals
       simp only [hqc] at HQC
       by_cases hc : c = 0
       case' pos =>
         have hc1 : (c == 0) = true := by simp [hc]
         have hc2 : decide (c = 0) = true := by simp [hc]
         clear hc
       case' neg =>
         have hc1 : (c == 0) = false := by simp [hc]
         have hc2 : decide (c = 0) = false := by simp [hc]
         clear hc
       all_goals
         go_quiet (fail)
         go_wp2_with fail
         go_quiet (first | (go_at_call_of 63 (Value.int .i64 b); exact quiet_nn (HFB _).out) | (go_at_call_of 63 (Value.int .i64 d); exact quiet_nn (HFD _).out) | (go_at_call_of 135 (Value.int .i64 a); exact quiet_nn (HQA _ (bD _ _ _)).out) | (go_at_call_of 135 (Value.int .i64 c); exact quiet_nn (HQC _ (bD _ _ _)).out))
         go_wp2_with fail
         go_quiet (fail)
         go_wp2_with fail
         all_goals
           go_ret
           refine ⟨?_, ?_⟩
           · rw [← HNV.out]
             congr 2
             simp [numV, qV, *]
             try (rw [Bool.eq_iff_iff]; simp; done)
           · first | exact below_drewN (below_drewN (bD _ _ _) _) _ | exact bA _ _ | exact bD _ _ _
 | false =>
   simp only [hqa] at HQA
   cases hqc : fromV c 0 ((P.gh.length : Int) - 1)
   all_goals
     simp only [hqc] at HQC
     by_cases hc : c = 0
     case' pos =>
       have hc1 : (c == 0) = true := by simp [hc]
       have hc2 : decide (c = 0) = true := by simp [hc]
       clear hc
     case' neg =>
       have hc1 : (c == 0) = false := by simp [hc]
       have hc2 : decide (c = 0) = false := by simp [hc]
       clear hc
     all_goals
       go_quiet (fail)
       go_wp2_with fail
       go_quiet (first | (go_at_call_of 63 (Value.int .i64 b); exact quiet_nn (HFB _).out) | (go_at_call_of 63 (Value.int .i64 d); exact quiet_nn (HFD _).out) | (go_at_call_of 135 (Value.int .i64 a); exact quiet_nn (HQA _ (bD _ _ _)).out) | (go_at_call_of 135 (Value.int .i64 c); exact quiet_nn (HQC _ (bD _ _ _)).out))
       go_wp2_with fail
       go_quiet (fail)
       go_wp2_with fail
       all_goals
         go_ret
         refine ⟨?_, ?_⟩
         · rw [← HNV.out]
           congr 2
           simp [numV, qV, *]
           try (rw [Bool.eq_iff_iff]; simp; done)
         · first | exact below_drewN (below_drewN (bD _ _ _) _) _ | exact bA _ _ | exact bD _ _ _
set_option maxRecDepth 100000 in
theorem numbers_k14 (w : World) (g : Nat) (q : PlV) (P : Pl) (ra : Option Addr) (rl rc i : Nat) (x : Ac) (h : Ck w g q P ra rl rc i) (hx : x.k = 14) :
   Calls Try.prog 102 #[.pointer (some ⟨g, 0, none⟩), x.val] w fun en w' => en = .returned (.bool (numV P x)) ∧ Below w.heap.size w w' := by
 obtain ⟨k, a, b, c, d, n⟩ := x
 simp only at hx
 subst hx
 obtain ⟨hk, e1, e2, e3, hs, l1, l2, l3⟩ := h
 obtain ⟨ga, va, ta, oa, ma, gl, gc, vl, vc, tl, tc, ol, oc, ml, mc⟩ := q
 simp only at e1 e2 e3 hs
 subst e1 e2 e3
 have HQ0 := fun (W : World) (y : Int) (hb : Below w.heap.size w W) => hide ((queue_i W g _ ra rl rc i y (hk.below hb hk.lt) l1).mono (fun en w' hh => (⟨hh.1, hh.2.symm⟩ : en = .returned (.bool (fromV y 0 ((P.gh.length : Int) - 1))) ∧ w' = W)))
 have HF := fun (W : World) (y lo hi : Int) => hide ((from_i W y lo hi).mono (fun en w' hh => (⟨hh.1, hh.2.symm⟩ : en = .returned (.bool (fromV y lo hi)) ∧ w' = W)))
 obtain ⟨nv, hnv⟩ : ∃ nv, numV P ⟨14, a, b, c, d, n⟩ = nv := ⟨_, rfl⟩
 rw [hnv]
 have HNV := hide hnv
 clear hnv
 have HQA := fun (W : World) (hb : Below w.heap.size w W) => HQ0 W a hb
 have HQC := fun (W : World) (hb : Below w.heap.size w W) => HQ0 W c hb
 clear HQ0
 unfold maxLen at l1 l2 l3
 simp only [Ac.val]
 have hlt := hk.lt
 obtain ⟨ce0, ce1, ce2⟩ := ck_cells hk (.cells #[.int .i64 14, .int .i64 a, .int .i64 b, .int .i64 c, .int .i64 d, .int .i64 n] 49)
 have u1 := IntWalk.i64_in ((P.gh.length : Int) - 1) (by omega)
 have u2 := IntWalk.i64_in ((P.vs.length : Int) - 1) (by omega)
 have u3 := IntWalk.i64_in ((P.ts.length : Int) - 1) (by omega)
 go_enter Try.func102, Try.ntmps102
 go_wp2_with fail
 have HFB := fun (W : World) => HF W b 0 1
 have HFD := fun (W : World) => HF W d 0 1
 cases hqa : fromV a 0 ((P.gh.length : Int) - 1) with
 | true =>
   simp only [hqa] at HQA
   cases hbb : fromV b 0 1 with
   | true =>
     simp only [hbb] at HFB
     cases hqc : fromV c 0 ((P.gh.length : Int) - 1) with
     | true =>
       simp only [hqc] at HQC
       cases hdd : fromV d 0 1 with
       | true =>
         simp only [hdd] at HFD
         obtain ⟨ada, ea, hadla, h0a, h1a, hca⟩ := gh_at (a := a) hs hqa
         subst ea
         have hxa : (w.alloc (.cells #[.int .i64 14, .int .i64 a, .int .i64 b, .int .i64 c, .int .i64 d, .int .i64 n] 49)).cell? (ada.add a.toNat) = some (.bool (ghV P.gh a)) := (World.cell?_alloc_lt w _ _ (by rw [add_block]; exact hadla)).trans hca
         obtain ⟨adc, ec, hadlc, h0c, h1c, hcc⟩ := gh_at (a := c) hs hqc
         have e2c : ada = adc := by injection ec
         subst e2c
         clear ec
         have hxc : (w.alloc (.cells #[.int .i64 14, .int .i64 a, .int .i64 b, .int .i64 c, .int .i64 d, .int .i64 n] 49)).cell? (ada.add c.toNat) = some (.bool (ghV P.gh c)) := (World.cell?_alloc_lt w _ _ (by rw [add_block]; exact hadlc)).trans hcc
         cases hga : ghV P.gh a
         all_goals
           rw [hga] at hxa
           by_cases hc : c = 0
           case' pos =>
             have hc1 : (c == 0) = true := by simp [hc]
             have hc2 : decide (c = 0) = true := by simp [hc]
             clear hc
           case' neg =>
             have hc1 : (c == 0) = false := by simp [hc]
             have hc2 : decide (c = 0) = false := by simp [hc]
             clear hc
           all_goals
             go_quiet (fail)
             go_wp2_with fail
             go_quiet (first | (go_at_call_of 63 (Value.int .i64 b); exact quiet_nn (HFB _).out) | (go_at_call_of 63 (Value.int .i64 d); exact quiet_nn (HFD _).out) | (go_at_call_of 135 (Value.int .i64 a); exact quiet_nn (HQA _ (bD _ _ _)).out) | (go_at_call_of 135 (Value.int .i64 c); exact quiet_nn (HQC _ (bD _ _ _)).out))
             go_wp2_with fail
             go_quiet (fail)
             go_wp2_with fail
             all_goals
               go_ret
               refine ⟨?_, ?_⟩
               · rw [← HNV.out]
                 congr 2
                 simp [numV, qV, *]
                 try (rw [Bool.eq_iff_iff]; simp; done)
               · first | exact below_drewN (below_drewN (bD _ _ _) _) _ | exact bA _ _ | exact bD _ _ _
       | false =>
         simp only [hdd] at HFD
         by_cases hc : c = 0
         case' pos =>
           have hc1 : (c == 0) = true := by simp [hc]
           have hc2 : decide (c = 0) = true := by simp [hc]
           clear hc
         case' neg =>
           have hc1 : (c == 0) = false := by simp [hc]
           have hc2 : decide (c = 0) = false := by simp [hc]
           clear hc
         all_goals
           go_quiet (fail)
           go_wp2_with fail
           go_quiet (first | (go_at_call_of 63 (Value.int .i64 b); exact quiet_nn (HFB _).out) | (go_at_call_of 63 (Value.int .i64 d); exact quiet_nn (HFD _).out) | (go_at_call_of 135 (Value.int .i64 a); exact quiet_nn (HQA _ (bD _ _ _)).out) | (go_at_call_of 135 (Value.int .i64 c); exact quiet_nn (HQC _ (bD _ _ _)).out))
           go_wp2_with fail
           go_quiet (fail)
           go_wp2_with fail
           all_goals
             go_ret
             refine ⟨?_, ?_⟩
             · rw [← HNV.out]
               congr 2
               simp [numV, qV, *]
               try (rw [Bool.eq_iff_iff]; simp; done)
             · first | exact below_drewN (below_drewN (bD _ _ _) _) _ | exact bA _ _ | exact bD _ _ _
     | false =>
       simp only [hqc] at HQC
       by_cases hc : c = 0
       case' pos =>
         have hc1 : (c == 0) = true := by simp [hc]
         have hc2 : decide (c = 0) = true := by simp [hc]
         clear hc
       case' neg =>
         have hc1 : (c == 0) = false := by simp [hc]
         have hc2 : decide (c = 0) = false := by simp [hc]
         clear hc
       all_goals
         go_quiet (fail)
         go_wp2_with fail
         go_quiet (first | (go_at_call_of 63 (Value.int .i64 b); exact quiet_nn (HFB _).out) | (go_at_call_of 63 (Value.int .i64 d); exact quiet_nn (HFD _).out) | (go_at_call_of 135 (Value.int .i64 a); exact quiet_nn (HQA _ (bD _ _ _)).out) | (go_at_call_of 135 (Value.int .i64 c); exact quiet_nn (HQC _ (bD _ _ _)).out))
         go_wp2_with fail
         go_quiet (fail)
         go_wp2_with fail
         all_goals
           go_ret
           refine ⟨?_, ?_⟩
           · rw [← HNV.out]
             congr 2
             simp [numV, qV, *]
             try (rw [Bool.eq_iff_iff]; simp; done)
           · first | exact below_drewN (below_drewN (bD _ _ _) _) _ | exact bA _ _ | exact bD _ _ _
   | false =>
     simp only [hbb] at HFB
     cases hqc : fromV c 0 ((P.gh.length : Int) - 1)
     all_goals
       simp only [hqc] at HQC
       by_cases hc : c = 0
       case' pos =>
         have hc1 : (c == 0) = true := by simp [hc]
         have hc2 : decide (c = 0) = true := by simp [hc]
         clear hc
       case' neg =>
         have hc1 : (c == 0) = false := by simp [hc]
         have hc2 : decide (c = 0) = false := by simp [hc]
         clear hc
       all_goals
         go_quiet (fail)
         go_wp2_with fail
         go_quiet (first | (go_at_call_of 63 (Value.int .i64 b); exact quiet_nn (HFB _).out) | (go_at_call_of 63 (Value.int .i64 d); exact quiet_nn (HFD _).out) | (go_at_call_of 135 (Value.int .i64 a); exact quiet_nn (HQA _ (bD _ _ _)).out) | (go_at_call_of 135 (Value.int .i64 c); exact quiet_nn (HQC _ (bD _ _ _)).out))
         go_wp2_with fail
         go_quiet (fail)
         go_wp2_with fail
         all_goals
           go_ret
           refine ⟨?_, ?_⟩
           · rw [← HNV.out]
             congr 2
             simp [numV, qV, *]
             try (rw [Bool.eq_iff_iff]; simp; done)
           · first | exact below_drewN (below_drewN (bD _ _ _) _) _ | exact bA _ _ | exact bD _ _ _
 | false =>
   simp only [hqa] at HQA
   cases hqc : fromV c 0 ((P.gh.length : Int) - 1)
   all_goals
     simp only [hqc] at HQC
     by_cases hc : c = 0
     case' pos =>
       have hc1 : (c == 0) = true := by simp [hc]
       have hc2 : decide (c = 0) = true := by simp [hc]
       clear hc
     case' neg =>
       have hc1 : (c == 0) = false := by simp [hc]
       have hc2 : decide (c = 0) = false := by simp [hc]
       clear hc
     all_goals
       go_quiet (fail)
       go_wp2_with fail
       go_quiet (first | (go_at_call_of 63 (Value.int .i64 b); exact quiet_nn (HFB _).out) | (go_at_call_of 63 (Value.int .i64 d); exact quiet_nn (HFD _).out) | (go_at_call_of 135 (Value.int .i64 a); exact quiet_nn (HQA _ (bD _ _ _)).out) | (go_at_call_of 135 (Value.int .i64 c); exact quiet_nn (HQC _ (bD _ _ _)).out))
       go_wp2_with fail
       go_quiet (fail)
       go_wp2_with fail
       all_goals
         go_ret
         refine ⟨?_, ?_⟩
         · rw [← HNV.out]
           congr 2
           simp [numV, qV, *]
           try (rw [Bool.eq_iff_iff]; simp; done)
         · first | exact below_drewN (below_drewN (bD _ _ _) _) _ | exact bA _ _ | exact bD _ _ _
set_option maxRecDepth 100000 in
theorem numbers_other (w : World) (g : Nat) (q : PlV) (P : Pl) (ra : Option Addr) (rl rc i : Nat) (x : Ac) (h : Ck w g q P ra rl rc i) (hx : x.k ≠ 3 ∧ x.k ≠ 4 ∧ x.k ≠ 21 ∧ x.k ≠ 5 ∧ x.k ≠ 25 ∧ x.k ≠ 19 ∧ x.k ≠ 20 ∧ x.k ≠ 22 ∧ x.k ≠ 24 ∧ x.k ≠ 6 ∧ x.k ≠ 9 ∧ x.k ≠ 10 ∧ x.k ≠ 18 ∧ x.k ≠ 7 ∧ x.k ≠ 15 ∧ x.k ≠ 16 ∧ x.k ≠ 13 ∧ x.k ≠ 14) :
   Calls Try.prog 102 #[.pointer (some ⟨g, 0, none⟩), x.val] w fun en w' => en = .returned (.bool (numV P x)) ∧ Below w.heap.size w w' := by
 obtain ⟨k, a, b, c, d, n⟩ := x
 simp only at hx
 obtain ⟨n3, n4, n21, n5, n25, n19, n20, n22, n24, n6, n9, n10, n18, n7, n15, n16, n13, n14⟩ := hx
 have b3 : (k == 3) = false := by simp [n3]
 have d3 : decide (k = 3) = false := by simp [n3]
 have b4 : (k == 4) = false := by simp [n4]
 have d4 : decide (k = 4) = false := by simp [n4]
 have b21 : (k == 21) = false := by simp [n21]
 have d21 : decide (k = 21) = false := by simp [n21]
 have b5 : (k == 5) = false := by simp [n5]
 have d5 : decide (k = 5) = false := by simp [n5]
 have b25 : (k == 25) = false := by simp [n25]
 have d25 : decide (k = 25) = false := by simp [n25]
 have b19 : (k == 19) = false := by simp [n19]
 have d19 : decide (k = 19) = false := by simp [n19]
 have b20 : (k == 20) = false := by simp [n20]
 have d20 : decide (k = 20) = false := by simp [n20]
 have b22 : (k == 22) = false := by simp [n22]
 have d22 : decide (k = 22) = false := by simp [n22]
 have b24 : (k == 24) = false := by simp [n24]
 have d24 : decide (k = 24) = false := by simp [n24]
 have b6 : (k == 6) = false := by simp [n6]
 have d6 : decide (k = 6) = false := by simp [n6]
 have b9 : (k == 9) = false := by simp [n9]
 have d9 : decide (k = 9) = false := by simp [n9]
 have b10 : (k == 10) = false := by simp [n10]
 have d10 : decide (k = 10) = false := by simp [n10]
 have b18 : (k == 18) = false := by simp [n18]
 have d18 : decide (k = 18) = false := by simp [n18]
 have b7 : (k == 7) = false := by simp [n7]
 have d7 : decide (k = 7) = false := by simp [n7]
 have b15 : (k == 15) = false := by simp [n15]
 have d15 : decide (k = 15) = false := by simp [n15]
 have b16 : (k == 16) = false := by simp [n16]
 have d16 : decide (k = 16) = false := by simp [n16]
 have b13 : (k == 13) = false := by simp [n13]
 have d13 : decide (k = 13) = false := by simp [n13]
 have b14 : (k == 14) = false := by simp [n14]
 have d14 : decide (k = 14) = false := by simp [n14]
 obtain ⟨hk, e1, e2, e3, hs, l1, l2, l3⟩ := h
 obtain ⟨ga, va, ta, oa, ma, gl, gc, vl, vc, tl, tc, ol, oc, ml, mc⟩ := q
 simp only at e1 e2 e3 hs
 subst e1 e2 e3
 have HQ0 := fun (W : World) (y : Int) (hb : Below w.heap.size w W) => hide ((queue_i W g _ ra rl rc i y (hk.below hb hk.lt) l1).mono (fun en w' hh => (⟨hh.1, hh.2.symm⟩ : en = .returned (.bool (fromV y 0 ((P.gh.length : Int) - 1))) ∧ w' = W)))
 have HF := fun (W : World) (y lo hi : Int) => hide ((from_i W y lo hi).mono (fun en w' hh => (⟨hh.1, hh.2.symm⟩ : en = .returned (.bool (fromV y lo hi)) ∧ w' = W)))
 obtain ⟨nv, hnv⟩ : ∃ nv, numV P ⟨k, a, b, c, d, n⟩ = nv := ⟨_, rfl⟩
 rw [hnv]
 have HNV := hide hnv
 clear hnv
 have HQA := fun (W : World) (hb : Below w.heap.size w W) => HQ0 W a hb
 have HQC := fun (W : World) (hb : Below w.heap.size w W) => HQ0 W c hb
 clear HQ0
 unfold maxLen at l1 l2 l3
 simp only [Ac.val]
 have hlt := hk.lt
 obtain ⟨ce0, ce1, ce2⟩ := ck_cells hk (.cells #[.int .i64 k, .int .i64 a, .int .i64 b, .int .i64 c, .int .i64 d, .int .i64 n] 49)
 have u1 := IntWalk.i64_in ((P.gh.length : Int) - 1) (by omega)
 have u2 := IntWalk.i64_in ((P.vs.length : Int) - 1) (by omega)
 have u3 := IntWalk.i64_in ((P.ts.length : Int) - 1) (by omega)
 go_enter Try.func102, Try.ntmps102
 go_wp2_with fail
 by_cases hc : c = 0
 case' pos => subst hc
 case' neg =>
   have hc1 : (c == 0) = false := by simp [hc]
   have hc2 : decide (c = 0) = false := by simp [hc]
 all_goals
   go_quiet (fail)
   go_wp2_with (first | (go_at_call 63; refine (HF _ _ _ _).out.mono ?_; rintro en w1 ⟨rfl, rfl⟩) | (go_at_call 135; refine (HQA _ (bD _ _ _)).out.mono ?_; rintro en w1 ⟨rfl, rfl⟩))
   all_goals
     go_ret
     refine ⟨?_, ?_⟩
     · rw [← HNV.out]
       congr 2
       simp [numV, qV, *]
       try (rw [Bool.eq_iff_iff]; simp; done)
     · first | exact bA _ _ | exact bD _ _ _
theorem numbers_i (w : World) (g : Nat) (q : PlV) (P : Pl) (ra : Option Addr) (rl rc i : Nat) (x : Ac) (h : Ck w g q P ra rl rc i) :
   Calls Try.prog 102 #[.pointer (some ⟨g, 0, none⟩), x.val] w fun en w' => en = .returned (.bool (numV P x)) ∧ Below w.heap.size w w' := by
 by_cases h3 : x.k = 3
 · exact numbers_k3 w g q P ra rl rc i x h h3
 by_cases h4 : x.k = 4
 · exact numbers_k4 w g q P ra rl rc i x h h4
 by_cases h21 : x.k = 21
 · exact numbers_k21 w g q P ra rl rc i x h h21
 by_cases h5 : x.k = 5
 · exact numbers_k5 w g q P ra rl rc i x h h5
 by_cases h25 : x.k = 25
 · exact numbers_k25 w g q P ra rl rc i x h h25
 by_cases h19 : x.k = 19
 · exact numbers_k19 w g q P ra rl rc i x h h19
 by_cases h20 : x.k = 20
 · exact numbers_k20 w g q P ra rl rc i x h h20
 by_cases h22 : x.k = 22
 · exact numbers_k22 w g q P ra rl rc i x h h22
 by_cases h24 : x.k = 24
 · exact numbers_k24 w g q P ra rl rc i x h h24
 by_cases h6 : x.k = 6
 · exact numbers_k6 w g q P ra rl rc i x h h6
 by_cases h9 : x.k = 9
 · exact numbers_k9 w g q P ra rl rc i x h h9
 by_cases h10 : x.k = 10
 · exact numbers_k10 w g q P ra rl rc i x h h10
 by_cases h18 : x.k = 18
 · exact numbers_k18 w g q P ra rl rc i x h h18
 by_cases h7 : x.k = 7
 · exact numbers_k7 w g q P ra rl rc i x h h7
 by_cases h15 : x.k = 15
 · exact numbers_k15 w g q P ra rl rc i x h h15
 by_cases h16 : x.k = 16
 · exact numbers_k16 w g q P ra rl rc i x h h16
 by_cases h13 : x.k = 13
 · exact numbers_k13 w g q P ra rl rc i x h h13
 by_cases h14 : x.k = 14
 · exact numbers_k14 w g q P ra rl rc i x h h14
 exact numbers_other w g q P ra rl rc i x h ⟨h3, h4, h21, h5, h25, h19, h20, h22, h24, h6, h9, h10, h18, h7, h15, h16, h13, h14⟩
end Go.Proofs.Ytdpokdcendgfeaa
