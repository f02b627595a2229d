/- Several texts in one: The walk of the reference's operands, the kinds that are left. Conditions: those of each. -/
import Derived.Test.YtdpokdcendgfeaaZ20
set_option linter.unusedSimpArgs false
set_option linter.unusedVariables false
set_option maxHeartbeats 40000000
namespace Go.Proofs.Ytdpokdcendgfeaa
open Go.RowKit
set_option maxRecDepth 100000 in
theorem operands_none (w : World) (q : PlV) (P : Pl) (x : Ac) (h : Pm w q P) (hx : x.k ≠ 3 ∧ x.k ≠ 4 ∧ x.k ≠ 21 ∧ x.k ≠ 5 ∧ x.k ≠ 25 ∧ x.k ≠ 6 ∧ x.k ≠ 9 ∧ x.k ≠ 10 ∧ x.k ≠ 18 ∧ x.k ≠ 7 ∧ x.k ≠ 15 ∧ x.k ≠ 16 ∧ x.k ≠ 13 ∧ x.k ≠ 14 ∧ x.k ≠ 19 ∧ x.k ≠ 20 ∧ x.k ≠ 22 ∧ x.k ≠ 24) :
   Calls Try.prog 124 #[q.val, x.val] w fun en w' => en = .returned (.bool (opR P x)) ∧ Below w.heap.size w w' := by
 obtain ⟨k, a, b, c, d, n⟩ := x
 simp only at hx
 obtain ⟨n3, n4, n21, n5, n25, n6, n9, n10, n18, n7, n15, n16, n13, n14, n19, n20, n22, n24⟩ := hx
 obtain ⟨e1, e2, e3, hs, l1, l2, l3⟩ := h
 obtain ⟨ga, va, ta, oa, ma, gl, gc, vl, vc, tl, tc, ol, oc, ml, mc⟩ := q
 simp only at e1 e2 e3 hs
 subst e1 e2 e3
 have HF := fun (W : World) (y lo hi : Int) => hide (to_q W y lo hi)
 obtain ⟨nv, hnv⟩ : ∃ nv, opR P ⟨k, a, b, c, d, n⟩ = nv := ⟨_, rfl⟩
 rw [hnv]
 have HNV := hide hnv
 clear hnv
 unfold maxLen at l1 l2 l3
 simp only [Ac.val, PlV.val]
 have u1 := IntWalk.i64_in ((P.gh.length : Int) - 1) (by omega)
 have u2 := IntWalk.i64_in ((P.vs.length : Int) - 1) (by omega)
 have u3 := IntWalk.i64_in ((P.ts.length : Int) - 1) (by omega)
 go_enter Try.func124, Try.ntmps124
 go_wp2_with (go_at_call 79; refine (HF _ _ _ _).out.mono ?_; rintro en w1 ⟨rfl, rfl⟩)
 all_goals
   go_ret
   refine ⟨?_, ?_⟩
   · rw [← HNV.out]
     congr 2
     simp [opR, *]
     try (rw [Bool.eq_iff_iff]; simp; done)
   · first | exact bA2 _ _ _ | exact bD2 _ _ _ _
set_option maxRecDepth 100000 in
theorem operands_k13 (w : World) (q : PlV) (P : Pl) (x : Ac) (h : Pm w q P) (hx : x.k = 13) :
   Calls Try.prog 124 #[q.val, x.val] w fun en w' => en = .returned (.bool (opR P x)) ∧ Below w.heap.size w w' := by
 obtain ⟨k, a, b, c, d, n⟩ := x
 simp only at hx
 subst hx
 obtain ⟨e1, e2, e3, hs, l1, l2, l3⟩ := h
 obtain ⟨ga, va, ta, oa, ma, gl, gc, vl, vc, tl, tc, ol, oc, ml, mc⟩ := q
 simp only at e1 e2 e3 hs
 subst e1 e2 e3
 have HF := fun (W : World) (y lo hi : Int) => hide (to_q W y lo hi)
 obtain ⟨nv, hnv⟩ : ∃ nv, opR P ⟨13, a, b, c, d, n⟩ = nv := ⟨_, rfl⟩
 rw [hnv]
 have HNV := hide hnv
 clear hnv
 unfold maxLen at l1 l2 l3
 simp only [Ac.val, PlV.val]
 have u1 := IntWalk.i64_in ((P.gh.length : Int) - 1) (by omega)
 have u2 := IntWalk.i64_in ((P.vs.length : Int) - 1) (by omega)
 have u3 := IntWalk.i64_in ((P.ts.length : Int) - 1) (by omega)
 cases hqa : fromV a 0 ((P.gh.length : Int) - 1) with
 | true =>
   have HFa := fun (W : World) => hide ((to_i W a 0 ((P.gh.length : Int) - 1)).mono (fun en w' hh => (⟨by rw [hh.1, hqa], hh.2.symm⟩ : en = .returned (.bool true) ∧ w' = W)))
   obtain ⟨ada, eaa, hla, h0a, h1a, hca⟩ := gh_at (a := a) hs hqa
   subst eaa
   have hxa : ∀ y0 y1 y2 y3 y4 y5 : Int, ((w.alloc (.cells #[.slice (some ada) P.gh.length gc, .slice va P.vs.length vc, .slice ta P.ts.length tc, .slice oa ol oc, .slice ma ml mc] 28)).alloc (.cells #[.int .i64 y0, .int .i64 y1, .int .i64 y2, .int .i64 y3, .int .i64 y4, .int .i64 y5] 49)).cell? (ada.add a.toNat) = some (.bool (ghV P.gh a)) := fun y0 y1 y2 y3 y4 y5 => (World.cell?_alloc_lt _ _ _ (by rw [add_block]; exact Nat.lt_of_lt_of_le hla (by simp))).trans ((World.cell?_alloc_lt _ _ _ (by rw [add_block]; exact hla)).trans hca)
   clear hca
   cases hqc : fromV c 0 ((P.gh.length : Int) - 1) with
   | true =>
     have HFc := fun (W : World) => hide ((to_i W c 0 ((P.gh.length : Int) - 1)).mono (fun en w' hh => (⟨by rw [hh.1, hqc], hh.2.symm⟩ : en = .returned (.bool true) ∧ w' = W)))
     obtain ⟨adc, eac, hlc, h0c, h1c, hcC⟩ := gh_at (a := c) hs hqc
     cases eac
     have hxc : ∀ y0 y1 y2 y3 y4 y5 : Int, ((w.alloc (.cells #[.slice (some ada) P.gh.length gc, .slice va P.vs.length vc, .slice ta P.ts.length tc, .slice oa ol oc, .slice ma ml mc] 28)).alloc (.cells #[.int .i64 y0, .int .i64 y1, .int .i64 y2, .int .i64 y3, .int .i64 y4, .int .i64 y5] 49)).cell? (ada.add c.toNat) = some (.bool (ghV P.gh c)) := fun y0 y1 y2 y3 y4 y5 => (World.cell?_alloc_lt _ _ _ (by rw [add_block]; exact Nat.lt_of_lt_of_le hlc (by simp))).trans ((World.cell?_alloc_lt _ _ _ (by rw [add_block]; exact hlc)).trans hcC)
     clear hcC
     by_cases hc : c = 0
     · have hc1 : (c == 0) = true := by simp [hc]
       have hc2 : decide (c = 0) = true := by simp [hc]
       clear hc
       go_enter Try.func124, Try.ntmps124
       go_wp2_with (go_at_call 79; first | (with_reducible refine (HFa _).out.mono ?_; rintro en w1 ⟨rfl, rfl⟩) | (with_reducible refine (HFc _).out.mono ?_; rintro en w1 ⟨rfl, rfl⟩) | (refine (HF _ _ _ _).out.mono ?_; rintro en w1 ⟨rfl, rfl⟩))
       all_goals try (go_quiet (fail); go_wp2_with fail)
       all_goals
         go_ret
         refine ⟨?_, ?_⟩
         · rw [← HNV.out]
           congr 2
           simp [opR, *]
           try (rw [Bool.eq_iff_iff]; simp; done)
         · first | exact bA2 _ _ _ | exact bD2 _ _ _ _
     · have hc1 : (c == 0) = false := by simp [hc]
       have hc2 : decide (c = 0) = false := by simp [hc]
       clear hc
       go_enter Try.func124, Try.ntmps124
       go_wp2_with (go_at_call 79; first | (with_reducible refine (HFa _).out.mono ?_; rintro en w1 ⟨rfl, rfl⟩) | (with_reducible refine (HFc _).out.mono ?_; rintro en w1 ⟨rfl, rfl⟩) | (refine (HF _ _ _ _).out.mono ?_; rintro en w1 ⟨rfl, rfl⟩))
       all_goals try (go_quiet (fail); go_wp2_with fail)
       all_goals
         go_ret
         refine ⟨?_, ?_⟩
         · rw [← HNV.out]
           congr 2
           simp [opR, *]
           try (rw [Bool.eq_iff_iff]; simp; done)
         · first | exact bA2 _ _ _ | exact bD2 _ _ _ _
   | false =>
     have HFc := fun (W : World) => hide ((to_i W c 0 ((P.gh.length : Int) - 1)).mono (fun en w' hh => (⟨by rw [hh.1, hqc], hh.2.symm⟩ : en = .returned (.bool false) ∧ w' = W)))
     by_cases hc : c = 0
     · have hc1 : (c == 0) = true := by simp [hc]
       have hc2 : decide (c = 0) = true := by simp [hc]
       clear hc
       go_enter Try.func124, Try.ntmps124
       go_wp2_with (go_at_call 79; first | (with_reducible refine (HFa _).out.mono ?_; rintro en w1 ⟨rfl, rfl⟩) | (with_reducible refine (HFc _).out.mono ?_; rintro en w1 ⟨rfl, rfl⟩) | (refine (HF _ _ _ _).out.mono ?_; rintro en w1 ⟨rfl, rfl⟩))
       all_goals try (go_quiet (fail); go_wp2_with fail)
       all_goals
         go_ret
         refine ⟨?_, ?_⟩
         · rw [← HNV.out]
           congr 2
           simp [opR, *]
           try (rw [Bool.eq_iff_iff]; simp; done)
         · first | exact bA2 _ _ _ | exact bD2 _ _ _ _
     · have hc1 : (c == 0) = false := by simp [hc]
       have hc2 : decide (c = 0) = false := by simp [hc]
       clear hc
       go_enter Try.func124, Try.ntmps124
       go_wp2_with (go_at_call 79; first | (with_reducible refine (HFa _).out.mono ?_; rintro en w1 ⟨rfl, rfl⟩) | (with_reducible refine (HFc _).out.mono ?_; rintro en w1 ⟨rfl, rfl⟩) | (refine (HF _ _ _ _).out.mono ?_; rintro en w1 ⟨rfl, rfl⟩))
       all_goals try (go_quiet (fail); go_wp2_with fail)
       all_goals
         go_ret
         refine ⟨?_, ?_⟩
         · rw [← HNV.out]
           congr 2
           simp [opR, *]
           try (rw [Bool.eq_iff_iff]; simp; done)
         · first | exact bA2 _ _ _ | exact bD2 _ _ _ _
 | false =>
   have HFa := fun (W : World) => hide ((to_i W a 0 ((P.gh.length : Int) - 1)).mono (fun en w' hh => (⟨by rw [hh.1, hqa], hh.2.symm⟩ : en = .returned (.bool false) ∧ w' = W)))
   go_enter Try.func124, Try.ntmps124
   go_wp2_with (go_at_call 79; first | (with_reducible refine (HFa _).out.mono ?_; rintro en w1 ⟨rfl, rfl⟩) | (refine (HF _ _ _ _).out.mono ?_; rintro en w1 ⟨rfl, rfl⟩))
   all_goals try (go_quiet (fail); go_wp2_with fail)
   all_goals
     go_ret
     refine ⟨?_, ?_⟩
     · rw [← HNV.out]
       congr 2
       simp [opR, *]
       try (rw [Bool.eq_iff_iff]; simp; done)
     · first | exact bA2 _ _ _ | exact bD2 _ _ _ _
set_option maxRecDepth 100000 in
theorem operands_k14 (w : World) (q : PlV) (P : Pl) (x : Ac) (h : Pm w q P) (hx : x.k = 14) :
   Calls Try.prog 124 #[q.val, x.val] w fun en w' => en = .returned (.bool (opR P x)) ∧ Below w.heap.size w w' := by
 obtain ⟨k, a, b, c, d, n⟩ := x
 simp only at hx
 subst hx
 obtain ⟨e1, e2, e3, hs, l1, l2, l3⟩ := h
 obtain ⟨ga, va, ta, oa, ma, gl, gc, vl, vc, tl, tc, ol, oc, ml, mc⟩ := q
 simp only at e1 e2 e3 hs
 subst e1 e2 e3
 have HF := fun (W : World) (y lo hi : Int) => hide (to_q W y lo hi)
 obtain ⟨nv, hnv⟩ : ∃ nv, opR P ⟨14, a, b, c, d, n⟩ = nv := ⟨_, rfl⟩
 rw [hnv]
 have HNV := hide hnv
 clear hnv
 unfold maxLen at l1 l2 l3
 simp only [Ac.val, PlV.val]
 have u1 := IntWalk.i64_in ((P.gh.length : Int) - 1) (by omega)
 have u2 := IntWalk.i64_in ((P.vs.length : Int) - 1) (by omega)
 have u3 := IntWalk.i64_in ((P.ts.length : Int) - 1) (by omega)
 cases hqa : fromV a 0 ((P.gh.length : Int) - 1) with
 | true =>
   have HFa := fun (W : World) => hide ((to_i W a 0 ((P.gh.length : Int) - 1)).mono (fun en w' hh => (⟨by rw [hh.1, hqa], hh.2.symm⟩ : en = .returned (.bool true) ∧ w' = W)))
   obtain ⟨ada, eaa, hla, h0a, h1a, hca⟩ := gh_at (a := a) hs hqa
   subst eaa
   have hxa : ∀ y0 y1 y2 y3 y4 y5 : Int, ((w.alloc (.cells #[.slice (some ada) P.gh.length gc, .slice va P.vs.length vc, .slice ta P.ts.length tc, .slice oa ol oc, .slice ma ml mc] 28)).alloc (.cells #[.int .i64 y0, .int .i64 y1, .int .i64 y2, .int .i64 y3, .int .i64 y4, .int .i64 y5] 49)).cell? (ada.add a.toNat) = some (.bool (ghV P.gh a)) := fun y0 y1 y2 y3 y4 y5 => (World.cell?_alloc_lt _ _ _ (by rw [add_block]; exact Nat.lt_of_lt_of_le hla (by simp))).trans ((World.cell?_alloc_lt _ _ _ (by rw [add_block]; exact hla)).trans hca)
   clear hca
   cases hqc : fromV c 0 ((P.gh.length : Int) - 1) with
   | true =>
     have HFc := fun (W : World) => hide ((to_i W c 0 ((P.gh.length : Int) - 1)).mono (fun en w' hh => (⟨by rw [hh.1, hqc], hh.2.symm⟩ : en = .returned (.bool true) ∧ w' = W)))
     obtain ⟨adc, eac, hlc, h0c, h1c, hcC⟩ := gh_at (a := c) hs hqc
     cases eac
     have hxc : ∀ y0 y1 y2 y3 y4 y5 : Int, ((w.alloc (.cells #[.slice (some ada) P.gh.length gc, .slice va P.vs.length vc, .slice ta P.ts.length tc, .slice oa ol oc, .slice ma ml mc] 28)).alloc (.cells #[.int .i64 y0, .int .i64 y1, .int .i64 y2, .int .i64 y3, .int .i64 y4, .int .i64 y5] 49)).cell? (ada.add c.toNat) = some (.bool (ghV P.gh c)) := fun y0 y1 y2 y3 y4 y5 => (World.cell?_alloc_lt _ _ _ (by rw [add_block]; exact Nat.lt_of_lt_of_le hlc (by simp))).trans ((World.cell?_alloc_lt _ _ _ (by rw [add_block]; exact hlc)).trans hcC)
     clear hcC
     by_cases hc : c = 0
     · have hc1 : (c == 0) = true := by simp [hc]
       have hc2 : decide (c = 0) = true := by simp [hc]
       clear hc
       go_enter Try.func124, Try.ntmps124
       go_wp2_with (go_at_call 79; first | (with_reducible refine (HFa _).out.mono ?_; rintro en w1 ⟨rfl, rfl⟩) | (with_reducible refine (HFc _).out.mono ?_; rintro en w1 ⟨rfl, rfl⟩) | (refine (HF _ _ _ _).out.mono ?_; rintro en w1 ⟨rfl, rfl⟩))
       all_goals try (go_quiet (fail); go_wp2_with fail)
       all_goals
         go_ret
         refine ⟨?_, ?_⟩
         · rw [← HNV.out]
           congr 2
           simp [opR, *]
           try (rw [Bool.eq_iff_iff]; simp; done)
         · first | exact bA2 _ _ _ | exact bD2 _ _ _ _
     · have hc1 : (c == 0) = false := by simp [hc]
       have hc2 : decide (c = 0) = false := by simp [hc]
       clear hc
       go_enter Try.func124, Try.ntmps124
       go_wp2_with (go_at_call 79; first | (with_reducible refine (HFa _).out.mono ?_; rintro en w1 ⟨rfl, rfl⟩) | (with_reducible refine (HFc _).out.mono ?_; rintro en w1 ⟨rfl, rfl⟩) | (refine (HF _ _ _ _).out.mono ?_; rintro en w1 ⟨rfl, rfl⟩))
       all_goals try (go_quiet (fail); go_wp2_with fail)
       all_goals
         go_ret
         refine ⟨?_, ?_⟩
         · rw [← HNV.out]
           congr 2
           simp [opR, *]
           try (rw [Bool.eq_iff_iff]; simp; done)
         · first | exact bA2 _ _ _ | exact bD2 _ _ _ _
   | false =>
     have HFc := fun (W : World) => hide ((to_i W c 0 ((P.gh.length : Int) - 1)).mono (fun en w' hh => (⟨by rw [hh.1, hqc], hh.2.symm⟩ : en = .returned (.bool false) ∧ w' = W)))
     by_cases hc : c = 0
     · have hc1 : (c == 0) = true := by simp [hc]
       have hc2 : decide (c = 0) = true := by simp [hc]
       clear hc
       go_enter Try.func124, Try.ntmps124
       go_wp2_with (go_at_call 79; first | (with_reducible refine (HFa _).out.mono ?_; rintro en w1 ⟨rfl, rfl⟩) | (with_reducible refine (HFc _).out.mono ?_; rintro en w1 ⟨rfl, rfl⟩) | (refine (HF _ _ _ _).out.mono ?_; rintro en w1 ⟨rfl, rfl⟩))
       all_goals try (go_quiet (fail); go_wp2_with fail)
       all_goals
         go_ret
         refine ⟨?_, ?_⟩
         · rw [← HNV.out]
           congr 2
           simp [opR, *]
           try (rw [Bool.eq_iff_iff]; simp; done)
         · first | exact bA2 _ _ _ | exact bD2 _ _ _ _
     · have hc1 : (c == 0) = false := by simp [hc]
       have hc2 : decide (c = 0) = false := by simp [hc]
       clear hc
       go_enter Try.func124, Try.ntmps124
       go_wp2_with (go_at_call 79; first | (with_reducible refine (HFa _).out.mono ?_; rintro en w1 ⟨rfl, rfl⟩) | (with_reducible refine (HFc _).out.mono ?_; rintro en w1 ⟨rfl, rfl⟩) | (refine (HF _ _ _ _).out.mono ?_; rintro en w1 ⟨rfl, rfl⟩))
       all_goals try (go_quiet (fail); go_wp2_with fail)
       all_goals
         go_ret
         refine ⟨?_, ?_⟩
         · rw [← HNV.out]
           congr 2
           simp [opR, *]
           try (rw [Bool.eq_iff_iff]; simp; done)
         · first | exact bA2 _ _ _ | exact bD2 _ _ _ _
 | false =>
   have HFa := fun (W : World) => hide ((to_i W a 0 ((P.gh.length : Int) - 1)).mono (fun en w' hh => (⟨by rw [hh.1, hqa], hh.2.symm⟩ : en = .returned (.bool false) ∧ w' = W)))
   go_enter Try.func124, Try.ntmps124
   go_wp2_with (go_at_call 79; first | (with_reducible refine (HFa _).out.mono ?_; rintro en w1 ⟨rfl, rfl⟩) | (refine (HF _ _ _ _).out.mono ?_; rintro en w1 ⟨rfl, rfl⟩))
   all_goals try (go_quiet (fail); go_wp2_with fail)
   all_goals
     go_ret
     refine ⟨?_, ?_⟩
     · rw [← HNV.out]
       congr 2
       simp [opR, *]
       try (rw [Bool.eq_iff_iff]; simp; done)
     · first | exact bA2 _ _ _ | exact bD2 _ _ _ _
theorem operands_i (w : World) (q : PlV) (P : Pl) (x : Ac) (h : Pm w q P) : Calls Try.prog 124 #[q.val, x.val] w fun en w' => en = .returned (.bool (opR P x)) ∧ Below w.heap.size w w' := by
 by_cases h3 : x.k = 3
 · exact operands_k3 w q P x h h3
 by_cases h4 : x.k = 4
 · exact operands_k4 w q P x h h4
 by_cases h21 : x.k = 21
 · exact operands_k21 w q P x h h21
 by_cases h5 : x.k = 5
 · exact operands_k5 w q P x h h5
 by_cases h25 : x.k = 25
 · exact operands_k25 w q P x h h25
 by_cases h6 : x.k = 6
 · exact operands_k6 w q P x h h6
 by_cases h9 : x.k = 9
 · exact operands_k9 w q P x h h9
 by_cases h10 : x.k = 10
 · exact operands_k10 w q P x h h10
 by_cases h18 : x.k = 18
 · exact operands_k18 w q P x h h18
 by_cases h7 : x.k = 7
 · exact operands_k7 w q P x h h7
 by_cases h15 : x.k = 15
 · exact operands_k15 w q P x h h15
 by_cases h16 : x.k = 16
 · exact operands_k16 w q P x h h16
 by_cases h13 : x.k = 13
 · exact operands_k13 w q P x h h13
 by_cases h14 : x.k = 14
 · exact operands_k14 w q P x h h14
 by_cases h19 : x.k = 19
 · exact operands_k19 w q P x h h19
 by_cases h20 : x.k = 20
 · exact operands_k20 w q P x h h20
 by_cases h22 : x.k = 22
 · exact operands_k22 w q P x h h22
 by_cases h24 : x.k = 24
 · exact operands_k24 w q P x h h24
 exact operands_none w q P x h ⟨h3, h4, h21, h5, h25, h6, h9, h10, h18, h7, h15, h16, h13, h14, h19, h20, h22, h24⟩
end Go.Proofs.Ytdpokdcendgfeaa
