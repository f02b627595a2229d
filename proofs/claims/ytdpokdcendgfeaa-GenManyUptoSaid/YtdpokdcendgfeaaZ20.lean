/- Several texts in one: The walks of the reference's smallest looks: to, Type, kids, stands. The walk of the reference's operands. The walk of the reference's Ends. Conditions: those of each. -/
import Derived.Test.YtdpokdcendgfeaaZ7
import Derived.Test.YtdpokdcendgfeaaZ19
import Derived.Test.YtdpokdcendgfeaaZ8
import Derived.Test.YtdpokdcendgfeaaZ3
set_option linter.unusedSimpArgs false
set_option linter.unusedVariables false
set_option maxHeartbeats 40000000
namespace Go.Proofs.Ytdpokdcendgfeaa
open Go.RowKit
set_option maxRecDepth 100000 in
theorem to_i (w : World) (n lo hi : Int) : Calls Try.prog 79 #[.int .i64 n, .int .i64 lo, .int .i64 hi] w fun en w' => en = .returned (.bool (fromV n lo hi)) ∧ w = w' := by
 unfold fromV
 go_enter Try.func79, Try.ntmps79
 go_wp2
 all_goals
   go_ret
   first | exact ⟨rfl, rfl⟩ | (refine ⟨?_, rfl⟩; congr 2; simp; omega)
set_option maxRecDepth 100000 in
theorem typeR_i (w : World) (k : Int) : Calls Try.prog 82 #[.int .i64 k] w fun en w' => en = .returned (.int .i64 (typeR k)) ∧ w = w' := by
 unfold typeR
 go_enter Try.func82, Try.ntmps82
 go_wp2
 all_goals
   go_ret
   refine ⟨?_, rfl⟩
   simp only [beq_iff_eq, beq_eq_false_iff_ne, ne_eq] at *
   simp [*]
   first | done | omega
set_option maxRecDepth 100000 in
theorem standsR_i (w : World) (k what : Int) : Calls Try.prog 127 #[.int .i64 k, .int .i64 what] w fun en w' => en = .returned (.bool (standsR k what)) ∧ w = w' := by
 have HT := fun (W : World) => hide (typeR_i W k)
 unfold standsR
 go_enter Try.func127, Try.ntmps127
 go_wp2_with (go_at_call 82
              refine (HT _).out.mono ?_
              rintro en w1 ⟨rfl, rfl⟩)
 all_goals
   go_ret
   refine ⟨?_, rfl⟩
   simp only [beq_iff_eq, beq_eq_false_iff_ne, ne_eq] at *
   simp [*]
   first | done | omega | (rw [Bool.eq_iff_iff]; simp only [Bool.or_eq_true, beq_iff_eq, decide_eq_true_eq]; done) | (rw [Bool.eq_iff_iff]; simp; omega) | (rw [Bool.eq_iff_iff]; simp) | trace_state
theorem kidsR_mk {w W : World} {k : Int} {en : Ending} {g : Nat} {t : TypeId} (L : List Int) (h : kidsR k = L) (he : en = .returned (.slice (some ⟨g, 0, none⟩) L.length L.length)) (hb : Blk W g t (ints L).toArray) (hg : w.heap.size ≤ g) (hB : Below w.heap.size w W) :
   ∃ oa, en = .returned (.slice oa (kidsR k).length (kidsR k).length) ∧ Src W oa (kidsR k).length (ints (kidsR k)) ∧ (∀ ad, oa = some ad → w.heap.size ≤ ad.block) ∧ Below w.heap.size w W := by
 subst h
 exact ⟨_, he, src_blk _ hb, fun ad e => by injection e with e; subst e; exact hg, hB⟩
theorem kidsR_no {w W : World} {k : Int} {en : Ending} (h : kidsR k = []) (he : en = .returned (.slice none 0 0)) (hB : Below w.heap.size w W) :
   ∃ oa, en = .returned (.slice oa (kidsR k).length (kidsR k).length) ∧ Src W oa (kidsR k).length (ints (kidsR k)) ∧ (∀ ad, oa = some ad → w.heap.size ≤ ad.block) ∧ Below w.heap.size w W := by
 rw [h]
 exact ⟨none, he, src_nil _ _, fun ad e => (by cases e), hB⟩
set_option maxRecDepth 100000 in
theorem kidsR_i (w : World) (k : Int) : Calls Try.prog 126 #[.int .i64 k] w fun en w' => ∃ oa, en = .returned (.slice oa (kidsR k).length (kidsR k).length) ∧ Src w' oa (kidsR k).length (ints (kidsR k)) ∧ (∀ ad, oa = some ad → w.heap.size ≤ ad.block) ∧ Below w.heap.size w w' := by
 go_enter Try.func126, Try.ntmps126
 go_wp2
 all_goals
   go_ret
   simp only [beq_iff_eq, beq_eq_false_iff_ne, ne_eq] at *
   first
   | exact kidsR_mk [4, 1] (by simp [kidsR, *]) rfl (Blk.new w _ _) (Nat.le_refl _) ((Below.refl _ w).alloc (Nat.le_refl _) _)
   | exact kidsR_mk [3] (by simp [kidsR, *]) rfl (Blk.new w _ _) (Nat.le_refl _) ((Below.refl _ w).alloc (Nat.le_refl _) _)
   | exact kidsR_mk [5, 3] (by simp [kidsR, *]) rfl (Blk.new w _ _) (Nat.le_refl _) ((Below.refl _ w).alloc (Nat.le_refl _) _)
   | exact kidsR_mk [5] (by simp [kidsR, *]) rfl (Blk.new w _ _) (Nat.le_refl _) ((Below.refl _ w).alloc (Nat.le_refl _) _)
   | exact kidsR_mk [3, 3] (by simp [kidsR, *]) rfl (Blk.new w _ _) (Nat.le_refl _) ((Below.refl _ w).alloc (Nat.le_refl _) _)
   | exact kidsR_mk [6, 6] (by simp [kidsR, *]) rfl (Blk.new w _ _) (Nat.le_refl _) ((Below.refl _ w).alloc (Nat.le_refl _) _)
   | exact kidsR_mk [4] (by simp [kidsR, *]) rfl (Blk.new w _ _) (Nat.le_refl _) ((Below.refl _ w).alloc (Nat.le_refl _) _)
   | exact kidsR_mk [4, 4] (by simp [kidsR, *]) rfl (Blk.new w _ _) (Nat.le_refl _) ((Below.refl _ w).alloc (Nat.le_refl _) _)
   | exact kidsR_no (by simp [kidsR, *]) rfl (Below.refl _ w)
end Go.Proofs.Ytdpokdcendgfeaa
namespace Go.Proofs.Ytdpokdcendgfeaa
open Go.RowKit
/-- a plan's own, as the reference's looks need it -/
structure Pm (w : World) (q : PlV) (P : Pl) : Prop where
 gl : q.gl = P.gh.length
 vl : q.vl = P.vs.length
 tl : q.tl = P.ts.length
 gs : Src w q.ga P.gh.length (bools P.gh)
 l : P.gh.length ≤ maxLen ∧ P.vs.length ≤ maxLen ∧ P.ts.length ≤ maxLen
theorem Pm.below {w w' : World} {q : PlV} {P : Pl} (h : Pm w q P) (hb : Below w.heap.size w w') : Pm w' q P := ⟨h.gl, h.vl, h.tl, h.gs.below hb, h.l⟩
theorem bA2 (w : World) (o o' : Obj) : Below w.heap.size w ((w.alloc o).alloc o') := (bA w o).alloc (by simp) _
theorem bD2 (w : World) (o o' : Obj) (n : Nat) : Below w.heap.size w (((w.alloc o).alloc o').drewN n) := below_drewN (bA2 w o o') n
theorem to_q (W : World) (y lo hi : Int) : Calls Try.prog 79 #[.int .i64 y, .int .i64 lo, .int .i64 hi] W fun en w' => en = .returned (.bool (fromV y lo hi)) ∧ w' = W := (to_i W y lo hi).mono (fun en w' hh => (⟨hh.1, hh.2.symm⟩ : en = .returned (.bool (fromV y lo hi)) ∧ w' = W))
set_option maxRecDepth 100000 in
theorem operands_k3 (w : World) (q : PlV) (P : Pl) (x : Ac) (h : Pm w q P) (hx : x.k = 3) :
   Calls Try.prog 124 #[q.val, x.val] w fun en w' => en = .returned (.bool (opR P x)) ∧ Below w.heap.size w w' := by
 obtain ⟨k, a, b, c, d, n⟩ := x
 simp only at hx
 subst hx
 obtain ⟨e1, e2, e3, hs, l1, l2, l3⟩ := h
 obtain ⟨ga, va, ta, oa, ma, gl, gc, vl, vc, tl, tc, ol, oc, ml, mc⟩ := q
 simp only at e1 e2 e3 hs
 subst e1 e2 e3
 have HF := fun (W : World) (y lo hi : Int) => hide (to_q W y lo hi)
 obtain ⟨nv, hnv⟩ : ∃ nv, opR P ⟨3, a, b, c, d, n⟩ = nv := ⟨_, rfl⟩
 rw [hnv]
 have HNV := hide hnv
 clear hnv
 unfold maxLen at l1 l2 l3
 simp only [Ac.val, PlV.val]
 have u1 := IntWalk.i64_in ((P.gh.length : Int) - 1) (by omega)
 have u2 := IntWalk.i64_in ((P.vs.length : Int) - 1) (by omega)
 have u3 := IntWalk.i64_in ((P.ts.length : Int) - 1) (by omega)
 go_enter Try.func124, Try.ntmps124
 go_wp2_with (go_at_call 79; refine (HF _ _ _ _).out.mono ?_; rintro en w1 ⟨rfl, rfl⟩)
 all_goals
   go_ret
   refine ⟨?_, ?_⟩
   · rw [← HNV.out]
     congr 2
     simp [opR, *]
     try (rw [Bool.eq_iff_iff]; simp; done)
   · first | exact bA2 _ _ _ | exact bD2 _ _ _ _
set_option maxRecDepth 100000 in
theorem operands_k4 (w : World) (q : PlV) (P : Pl) (x : Ac) (h : Pm w q P) (hx : x.k = 4) :
   Calls Try.prog 124 #[q.val, x.val] w fun en w' => en = .returned (.bool (opR P x)) ∧ Below w.heap.size w w' := by
 obtain ⟨k, a, b, c, d, n⟩ := x
 simp only at hx
 subst hx
 obtain ⟨e1, e2, e3, hs, l1, l2, l3⟩ := h
 obtain ⟨ga, va, ta, oa, ma, gl, gc, vl, vc, tl, tc, ol, oc, ml, mc⟩ := q
 simp only at e1 e2 e3 hs
 subst e1 e2 e3
 have HF := fun (W : World) (y lo hi : Int) => hide (to_q W y lo hi)
 obtain ⟨nv, hnv⟩ : ∃ nv, opR P ⟨4, a, b, c, d, n⟩ = nv := ⟨_, rfl⟩
 rw [hnv]
 have HNV := hide hnv
 clear hnv
 unfold maxLen at l1 l2 l3
 simp only [Ac.val, PlV.val]
 have u1 := IntWalk.i64_in ((P.gh.length : Int) - 1) (by omega)
 have u2 := IntWalk.i64_in ((P.vs.length : Int) - 1) (by omega)
 have u3 := IntWalk.i64_in ((P.ts.length : Int) - 1) (by omega)
 go_enter Try.func124, Try.ntmps124
 go_wp2_with (go_at_call 79; refine (HF _ _ _ _).out.mono ?_; rintro en w1 ⟨rfl, rfl⟩)
 all_goals
   go_ret
   refine ⟨?_, ?_⟩
   · rw [← HNV.out]
     congr 2
     simp [opR, *]
     try (rw [Bool.eq_iff_iff]; simp; done)
   · first | exact bA2 _ _ _ | exact bD2 _ _ _ _
set_option maxRecDepth 100000 in
theorem operands_k21 (w : World) (q : PlV) (P : Pl) (x : Ac) (h : Pm w q P) (hx : x.k = 21) :
   Calls Try.prog 124 #[q.val, x.val] w fun en w' => en = .returned (.bool (opR P x)) ∧ Below w.heap.size w w' := by
 obtain ⟨k, a, b, c, d, n⟩ := x
 simp only at hx
 subst hx
 obtain ⟨e1, e2, e3, hs, l1, l2, l3⟩ := h
 obtain ⟨ga, va, ta, oa, ma, gl, gc, vl, vc, tl, tc, ol, oc, ml, mc⟩ := q
 simp only at e1 e2 e3 hs
 subst e1 e2 e3
 have HF := fun (W : World) (y lo hi : Int) => hide (to_q W y lo hi)
 obtain ⟨nv, hnv⟩ : ∃ nv, opR P ⟨21, a, b, c, d, n⟩ = nv := ⟨_, rfl⟩
 rw [hnv]
 have HNV := hide hnv
 clear hnv
 unfold maxLen at l1 l2 l3
 simp only [Ac.val, PlV.val]
 have u1 := IntWalk.i64_in ((P.gh.length : Int) - 1) (by omega)
 have u2 := IntWalk.i64_in ((P.vs.length : Int) - 1) (by omega)
 have u3 := IntWalk.i64_in ((P.ts.length : Int) - 1) (by omega)
 go_enter Try.func124, Try.ntmps124
 go_wp2_with (go_at_call 79; refine (HF _ _ _ _).out.mono ?_; rintro en w1 ⟨rfl, rfl⟩)
 all_goals
   go_ret
   refine ⟨?_, ?_⟩
   · rw [← HNV.out]
     congr 2
     simp [opR, *]
     try (rw [Bool.eq_iff_iff]; simp; done)
   · first | exact bA2 _ _ _ | exact bD2 _ _ _ _
set_option maxRecDepth 100000 in
theorem operands_k5 (w : World) (q : PlV) (P : Pl) (x : Ac) (h : Pm w q P) (hx : x.k = 5) :
   Calls Try.prog 124 #[q.val, x.val] w fun en w' => en = .returned (.bool (opR P x)) ∧ Below w.heap.size w w' := by
 obtain ⟨k, a, b, c, d, n⟩ := x
 simp only at hx
 subst hx
 obtain ⟨e1, e2, e3, hs, l1, l2, l3⟩ := h
 obtain ⟨ga, va, ta, oa, ma, gl, gc, vl, vc, tl, tc, ol, oc, ml, mc⟩ := q
 simp only at e1 e2 e3 hs
 subst e1 e2 e3
 have HF := fun (W : World) (y lo hi : Int) => hide (to_q W y lo hi)
 obtain ⟨nv, hnv⟩ : ∃ nv, opR P ⟨5, a, b, c, d, n⟩ = nv := ⟨_, rfl⟩
 rw [hnv]
 have HNV := hide hnv
 clear hnv
 unfold maxLen at l1 l2 l3
 simp only [Ac.val, PlV.val]
 have u1 := IntWalk.i64_in ((P.gh.length : Int) - 1) (by omega)
 have u2 := IntWalk.i64_in ((P.vs.length : Int) - 1) (by omega)
 have u3 := IntWalk.i64_in ((P.ts.length : Int) - 1) (by omega)
 go_enter Try.func124, Try.ntmps124
 go_wp2_with (go_at_call 79; refine (HF _ _ _ _).out.mono ?_; rintro en w1 ⟨rfl, rfl⟩)
 all_goals
   go_ret
   refine ⟨?_, ?_⟩
   · rw [← HNV.out]
     congr 2
     simp [opR, *]
     try (rw [Bool.eq_iff_iff]; simp; done)
   · first | exact bA2 _ _ _ | exact bD2 _ _ _ _
set_option maxRecDepth 100000 in
theorem operands_k25 (w : World) (q : PlV) (P : Pl) (x : Ac) (h : Pm w q P) (hx : x.k = 25) :
   Calls Try.prog 124 #[q.val, x.val] w fun en w' => en = .returned (.bool (opR P x)) ∧ Below w.heap.size w w' := by
 obtain ⟨k, a, b, c, d, n⟩ := x
 simp only at hx
 subst hx
 obtain ⟨e1, e2, e3, hs, l1, l2, l3⟩ := h
 obtain ⟨ga, va, ta, oa, ma, gl, gc, vl, vc, tl, tc, ol, oc, ml, mc⟩ := q
 simp only at e1 e2 e3 hs
 subst e1 e2 e3
 have HF := fun (W : World) (y lo hi : Int) => hide (to_q W y lo hi)
 obtain ⟨nv, hnv⟩ : ∃ nv, opR P ⟨25, a, b, c, d, n⟩ = nv := ⟨_, rfl⟩
 rw [hnv]
 have HNV := hide hnv
 clear hnv
 unfold maxLen at l1 l2 l3
 simp only [Ac.val, PlV.val]
 have u1 := IntWalk.i64_in ((P.gh.length : Int) - 1) (by omega)
 have u2 := IntWalk.i64_in ((P.vs.length : Int) - 1) (by omega)
 have u3 := IntWalk.i64_in ((P.ts.length : Int) - 1) (by omega)
 go_enter Try.func124, Try.ntmps124
 go_wp2_with (go_at_call 79; refine (HF _ _ _ _).out.mono ?_; rintro en w1 ⟨rfl, rfl⟩)
 all_goals
   go_ret
   refine ⟨?_, ?_⟩
   · rw [← HNV.out]
     congr 2
     simp [opR, *]
     try (rw [Bool.eq_iff_iff]; simp; done)
   · first | exact bA2 _ _ _ | exact bD2 _ _ _ _
set_option maxRecDepth 100000 in
theorem operands_k6 (w : World) (q : PlV) (P : Pl) (x : Ac) (h : Pm w q P) (hx : x.k = 6) :
   Calls Try.prog 124 #[q.val, x.val] w fun en w' => en = .returned (.bool (opR P x)) ∧ Below w.heap.size w w' := by
 obtain ⟨k, a, b, c, d, n⟩ := x
 simp only at hx
 subst hx
 obtain ⟨e1, e2, e3, hs, l1, l2, l3⟩ := h
 obtain ⟨ga, va, ta, oa, ma, gl, gc, vl, vc, tl, tc, ol, oc, ml, mc⟩ := q
 simp only at e1 e2 e3 hs
 subst e1 e2 e3
 have HF := fun (W : World) (y lo hi : Int) => hide (to_q W y lo hi)
 obtain ⟨nv, hnv⟩ : ∃ nv, opR P ⟨6, a, b, c, d, n⟩ = nv := ⟨_, rfl⟩
 rw [hnv]
 have HNV := hide hnv
 clear hnv
 unfold maxLen at l1 l2 l3
 simp only [Ac.val, PlV.val]
 have u1 := IntWalk.i64_in ((P.gh.length : Int) - 1) (by omega)
 have u2 := IntWalk.i64_in ((P.vs.length : Int) - 1) (by omega)
 have u3 := IntWalk.i64_in ((P.ts.length : Int) - 1) (by omega)
 go_enter Try.func124, Try.ntmps124
 go_wp2_with (go_at_call 79; refine (HF _ _ _ _).out.mono ?_; rintro en w1 ⟨rfl, rfl⟩)
 all_goals
   go_ret
   refine ⟨?_, ?_⟩
   · rw [← HNV.out]
     congr 2
     simp [opR, *]
     try (rw [Bool.eq_iff_iff]; simp; done)
   · first | exact bA2 _ _ _ | exact bD2 _ _ _ _
set_option maxRecDepth 100000 in
theorem operands_k9 (w : World) (q : PlV) (P : Pl) (x : Ac) (h : Pm w q P) (hx : x.k = 9) :
   Calls Try.prog 124 #[q.val, x.val] w fun en w' => en = .returned (.bool (opR P x)) ∧ Below w.heap.size w w' := by
 obtain ⟨k, a, b, c, d, n⟩ := x
 simp only at hx
 subst hx
 obtain ⟨e1, e2, e3, hs, l1, l2, l3⟩ := h
 obtain ⟨ga, va, ta, oa, ma, gl, gc, vl, vc, tl, tc, ol, oc, ml, mc⟩ := q
 simp only at e1 e2 e3 hs
 subst e1 e2 e3
 have HF := fun (W : World) (y lo hi : Int) => hide (to_q W y lo hi)
 obtain ⟨nv, hnv⟩ : ∃ nv, opR P ⟨9, a, b, c, d, n⟩ = nv := ⟨_, rfl⟩
 rw [hnv]
 have HNV := hide hnv
 clear hnv
 unfold maxLen at l1 l2 l3
 simp only [Ac.val, PlV.val]
 have u1 := IntWalk.i64_in ((P.gh.length : Int) - 1) (by omega)
 have u2 := IntWalk.i64_in ((P.vs.length : Int) - 1) (by omega)
 have u3 := IntWalk.i64_in ((P.ts.length : Int) - 1) (by omega)
 go_enter Try.func124, Try.ntmps124
 go_wp2_with (go_at_call 79; refine (HF _ _ _ _).out.mono ?_; rintro en w1 ⟨rfl, rfl⟩)
 all_goals
   go_ret
   refine ⟨?_, ?_⟩
   · rw [← HNV.out]
     congr 2
     simp [opR, *]
     try (rw [Bool.eq_iff_iff]; simp; done)
   · first | exact bA2 _ _ _ | exact bD2 _ _ _ _
set_option maxRecDepth 100000 in
theorem operands_k10 (w : World) (q : PlV) (P : Pl) (x : Ac) (h : Pm w q P) (hx : x.k = 10) :
   Calls Try.prog 124 #[q.val, x.val] w fun en w' => en = .returned (.bool (opR P x)) ∧ Below w.heap.size w w' := by
 obtain ⟨k, a, b, c, d, n⟩ := x
 simp only at hx
 subst hx
 obtain ⟨e1, e2, e3, hs, l1, l2, l3⟩ := h
 obtain ⟨ga, va, ta, oa, ma, gl, gc, vl, vc, tl, tc, ol, oc, ml, mc⟩ := q
 simp only at e1 e2 e3 hs
 subst e1 e2 e3
 have HF := fun (W : World) (y lo hi : Int) => hide (to_q W y lo hi)
 obtain ⟨nv, hnv⟩ : ∃ nv, opR P ⟨10, a, b, c, d, n⟩ = nv := ⟨_, rfl⟩
 rw [hnv]
 have HNV := hide hnv
 clear hnv
 unfold maxLen at l1 l2 l3
 simp only [Ac.val, PlV.val]
 have u1 := IntWalk.i64_in ((P.gh.length : Int) - 1) (by omega)
 have u2 := IntWalk.i64_in ((P.vs.length : Int) - 1) (by omega)
 have u3 := IntWalk.i64_in ((P.ts.length : Int) - 1) (by omega)
 go_enter Try.func124, Try.ntmps124
 go_wp2_with (go_at_call 79; refine (HF _ _ _ _).out.mono ?_; rintro en w1 ⟨rfl, rfl⟩)
 all_goals
   go_ret
   refine ⟨?_, ?_⟩
   · rw [← HNV.out]
     congr 2
     simp [opR, *]
     try (rw [Bool.eq_iff_iff]; simp; done)
   · first | exact bA2 _ _ _ | exact bD2 _ _ _ _
set_option maxRecDepth 100000 in
theorem operands_k18 (w : World) (q : PlV) (P : Pl) (x : Ac) (h : Pm w q P) (hx : x.k = 18) :
   Calls Try.prog 124 #[q.val, x.val] w fun en w' => en = .returned (.bool (opR P x)) ∧ Below w.heap.size w w' := by
 obtain ⟨k, a, b, c, d, n⟩ := x
 simp only at hx
 subst hx
 obtain ⟨e1, e2, e3, hs, l1, l2, l3⟩ := h
 obtain ⟨ga, va, ta, oa, ma, gl, gc, vl, vc, tl, tc, ol, oc, ml, mc⟩ := q
 simp only at e1 e2 e3 hs
 subst e1 e2 e3
 have HF := fun (W : World) (y lo hi : Int) => hide (to_q W y lo hi)
 obtain ⟨nv, hnv⟩ : ∃ nv, opR P ⟨18, a, b, c, d, n⟩ = nv := ⟨_, rfl⟩
 rw [hnv]
 have HNV := hide hnv
 clear hnv
 unfold maxLen at l1 l2 l3
 simp only [Ac.val, PlV.val]
 have u1 := IntWalk.i64_in ((P.gh.length : Int) - 1) (by omega)
 have u2 := IntWalk.i64_in ((P.vs.length : Int) - 1) (by omega)
 have u3 := IntWalk.i64_in ((P.ts.length : Int) - 1) (by omega)
 go_enter Try.func124, Try.ntmps124
 go_wp2_with (go_at_call 79; refine (HF _ _ _ _).out.mono ?_; rintro en w1 ⟨rfl, rfl⟩)
 all_goals
   go_ret
   refine ⟨?_, ?_⟩
   · rw [← HNV.out]
     congr 2
     simp [opR, *]
     try (rw [Bool.eq_iff_iff]; simp; done)
   · first | exact bA2 _ _ _ | exact bD2 _ _ _ _
set_option maxRecDepth 100000 in
theorem operands_k7 (w : World) (q : PlV) (P : Pl) (x : Ac) (h : Pm w q P) (hx : x.k = 7) :
   Calls Try.prog 124 #[q.val, x.val] w fun en w' => en = .returned (.bool (opR P x)) ∧ Below w.heap.size w w' := by
 obtain ⟨k, a, b, c, d, n⟩ := x
 simp only at hx
 subst hx
 obtain ⟨e1, e2, e3, hs, l1, l2, l3⟩ := h
 obtain ⟨ga, va, ta, oa, ma, gl, gc, vl, vc, tl, tc, ol, oc, ml, mc⟩ := q
 simp only at e1 e2 e3 hs
 subst e1 e2 e3
 have HF := fun (W : World) (y lo hi : Int) => hide (to_q W y lo hi)
 obtain ⟨nv, hnv⟩ : ∃ nv, opR P ⟨7, a, b, c, d, n⟩ = nv := ⟨_, rfl⟩
 rw [hnv]
 have HNV := hide hnv
 clear hnv
 unfold maxLen at l1 l2 l3
 simp only [Ac.val, PlV.val]
 have u1 := IntWalk.i64_in ((P.gh.length : Int) - 1) (by omega)
 have u2 := IntWalk.i64_in ((P.vs.length : Int) - 1) (by omega)
 have u3 := IntWalk.i64_in ((P.ts.length : Int) - 1) (by omega)
 cases hqa : fromV a 0 ((P.gh.length : Int) - 1) with
 | true =>
   have HFa := fun (W : World) => hide ((to_i W a 0 ((P.gh.length : Int) - 1)).mono (fun en w' hh => (⟨by rw [hh.1, hqa], hh.2.symm⟩ : en = .returned (.bool true) ∧ w' = W)))
   obtain ⟨ada, eaa, hla, h0a, h1a, hca⟩ := gh_at (a := a) hs hqa
   subst eaa
   have hxa : ∀ y0 y1 y2 y3 y4 y5 : Int, ((w.alloc (.cells #[.slice (some ada) P.gh.length gc, .slice va P.vs.length vc, .slice ta P.ts.length tc, .slice oa ol oc, .slice ma ml mc] 28)).alloc (.cells #[.int .i64 y0, .int .i64 y1, .int .i64 y2, .int .i64 y3, .int .i64 y4, .int .i64 y5] 49)).cell? (ada.add a.toNat) = some (.bool (ghV P.gh a)) := fun y0 y1 y2 y3 y4 y5 => (World.cell?_alloc_lt _ _ _ (by rw [add_block]; exact Nat.lt_of_lt_of_le hla (by simp))).trans ((World.cell?_alloc_lt _ _ _ (by rw [add_block]; exact hla)).trans hca)
   clear hca
   go_enter Try.func124, Try.ntmps124
   go_wp2_with (go_at_call 79; first | (with_reducible refine (HFa _).out.mono ?_; rintro en w1 ⟨rfl, rfl⟩) | (refine (HF _ _ _ _).out.mono ?_; rintro en w1 ⟨rfl, rfl⟩))
   all_goals
     go_ret
     refine ⟨?_, ?_⟩
     · rw [← HNV.out]
       congr 2
       simp [opR, *]
       try (rw [Bool.eq_iff_iff]; simp; done)
     · first | exact bA2 _ _ _ | exact bD2 _ _ _ _
 | false =>
   have HFa := fun (W : World) => hide ((to_i W a 0 ((P.gh.length : Int) - 1)).mono (fun en w' hh => (⟨by rw [hh.1, hqa], hh.2.symm⟩ : en = .returned (.bool false) ∧ w' = W)))
   go_enter Try.func124, Try.ntmps124
   go_wp2_with (go_at_call 79; first | (with_reducible refine (HFa _).out.mono ?_; rintro en w1 ⟨rfl, rfl⟩) | (refine (HF _ _ _ _).out.mono ?_; rintro en w1 ⟨rfl, rfl⟩))
   all_goals
     go_ret
     refine ⟨?_, ?_⟩
     · rw [← HNV.out]
       congr 2
       simp [opR, *]
       try (rw [Bool.eq_iff_iff]; simp; done)
     · first | exact bA2 _ _ _ | exact bD2 _ _ _ _
set_option maxRecDepth 100000 in
theorem operands_k15 (w : World) (q : PlV) (P : Pl) (x : Ac) (h : Pm w q P) (hx : x.k = 15) :
   Calls Try.prog 124 #[q.val, x.val] w fun en w' => en = .returned (.bool (opR P x)) ∧ Below w.heap.size w w' := by
 obtain ⟨k, a, b, c, d, n⟩ := x
 simp only at hx
 subst hx
 obtain ⟨e1, e2, e3, hs, l1, l2, l3⟩ := h
 obtain ⟨ga, va, ta, oa, ma, gl, gc, vl, vc, tl, tc, ol, oc, ml, mc⟩ := q
 simp only at e1 e2 e3 hs
 subst e1 e2 e3
 have HF := fun (W : World) (y lo hi : Int) => hide (to_q W y lo hi)
 obtain ⟨nv, hnv⟩ : ∃ nv, opR P ⟨15, a, b, c, d, n⟩ = nv := ⟨_, rfl⟩
 rw [hnv]
 have HNV := hide hnv
 clear hnv
 unfold maxLen at l1 l2 l3
 simp only [Ac.val, PlV.val]
 have u1 := IntWalk.i64_in ((P.gh.length : Int) - 1) (by omega)
 have u2 := IntWalk.i64_in ((P.vs.length : Int) - 1) (by omega)
 have u3 := IntWalk.i64_in ((P.ts.length : Int) - 1) (by omega)
 cases hqa : fromV a 0 ((P.gh.length : Int) - 1) with
 | true =>
   have HFa := fun (W : World) => hide ((to_i W a 0 ((P.gh.length : Int) - 1)).mono (fun en w' hh => (⟨by rw [hh.1, hqa], hh.2.symm⟩ : en = .returned (.bool true) ∧ w' = W)))
   obtain ⟨ada, eaa, hla, h0a, h1a, hca⟩ := gh_at (a := a) hs hqa
   subst eaa
   have hxa : ∀ y0 y1 y2 y3 y4 y5 : Int, ((w.alloc (.cells #[.slice (some ada) P.gh.length gc, .slice va P.vs.length vc, .slice ta P.ts.length tc, .slice oa ol oc, .slice ma ml mc] 28)).alloc (.cells #[.int .i64 y0, .int .i64 y1, .int .i64 y2, .int .i64 y3, .int .i64 y4, .int .i64 y5] 49)).cell? (ada.add a.toNat) = some (.bool (ghV P.gh a)) := fun y0 y1 y2 y3 y4 y5 => (World.cell?_alloc_lt _ _ _ (by rw [add_block]; exact Nat.lt_of_lt_of_le hla (by simp))).trans ((World.cell?_alloc_lt _ _ _ (by rw [add_block]; exact hla)).trans hca)
   clear hca
   go_enter Try.func124, Try.ntmps124
   go_wp2_with (go_at_call 79; first | (with_reducible refine (HFa _).out.mono ?_; rintro en w1 ⟨rfl, rfl⟩) | (refine (HF _ _ _ _).out.mono ?_; rintro en w1 ⟨rfl, rfl⟩))
   all_goals
     go_ret
     refine ⟨?_, ?_⟩
     · rw [← HNV.out]
       congr 2
       simp [opR, *]
       try (rw [Bool.eq_iff_iff]; simp; done)
     · first | exact bA2 _ _ _ | exact bD2 _ _ _ _
 | false =>
   have HFa := fun (W : World) => hide ((to_i W a 0 ((P.gh.length : Int) - 1)).mono (fun en w' hh => (⟨by rw [hh.1, hqa], hh.2.symm⟩ : en = .returned (.bool false) ∧ w' = W)))
   go_enter Try.func124, Try.ntmps124
   go_wp2_with (go_at_call 79; first | (with_reducible refine (HFa _).out.mono ?_; rintro en w1 ⟨rfl, rfl⟩) | (refine (HF _ _ _ _).out.mono ?_; rintro en w1 ⟨rfl, rfl⟩))
   all_goals
     go_ret
     refine ⟨?_, ?_⟩
     · rw [← HNV.out]
       congr 2
       simp [opR, *]
       try (rw [Bool.eq_iff_iff]; simp; done)
     · first | exact bA2 _ _ _ | exact bD2 _ _ _ _
set_option maxRecDepth 100000 in
theorem operands_k16 (w : World) (q : PlV) (P : Pl) (x : Ac) (h : Pm w q P) (hx : x.k = 16) :
   Calls Try.prog 124 #[q.val, x.val] w fun en w' => en = .returned (.bool (opR P x)) ∧ Below w.heap.size w w' := by
 obtain ⟨k, a, b, c, d, n⟩ := x
 simp only at hx
 subst hx
 obtain ⟨e1, e2, e3, hs, l1, l2, l3⟩ := h
 obtain ⟨ga, va, ta, oa, ma, gl, gc, vl, vc, tl, tc, ol, oc, ml, mc⟩ := q
 simp only at e1 e2 e3 hs
 subst e1 e2 e3
 have HF := fun (W : World) (y lo hi : Int) => hide (to_q W y lo hi)
 obtain ⟨nv, hnv⟩ : ∃ nv, opR P ⟨16, a, b, c, d, n⟩ = nv := ⟨_, rfl⟩
 rw [hnv]
 have HNV := hide hnv
 clear hnv
 unfold maxLen at l1 l2 l3
 simp only [Ac.val, PlV.val]
 have u1 := IntWalk.i64_in ((P.gh.length : Int) - 1) (by omega)
 have u2 := IntWalk.i64_in ((P.vs.length : Int) - 1) (by omega)
 have u3 := IntWalk.i64_in ((P.ts.length : Int) - 1) (by omega)
 cases hqa : fromV a 0 ((P.gh.length : Int) - 1) with
 | true =>
   have HFa := fun (W : World) => hide ((to_i W a 0 ((P.gh.length : Int) - 1)).mono (fun en w' hh => (⟨by rw [hh.1, hqa], hh.2.symm⟩ : en = .returned (.bool true) ∧ w' = W)))
   obtain ⟨ada, eaa, hla, h0a, h1a, hca⟩ := gh_at (a := a) hs hqa
   subst eaa
   have hxa : ∀ y0 y1 y2 y3 y4 y5 : Int, ((w.alloc (.cells #[.slice (some ada) P.gh.length gc, .slice va P.vs.length vc, .slice ta P.ts.length tc, .slice oa ol oc, .slice ma ml mc] 28)).alloc (.cells #[.int .i64 y0, .int .i64 y1, .int .i64 y2, .int .i64 y3, .int .i64 y4, .int .i64 y5] 49)).cell? (ada.add a.toNat) = some (.bool (ghV P.gh a)) := fun y0 y1 y2 y3 y4 y5 => (World.cell?_alloc_lt _ _ _ (by rw [add_block]; exact Nat.lt_of_lt_of_le hla (by simp))).trans ((World.cell?_alloc_lt _ _ _ (by rw [add_block]; exact hla)).trans hca)
   clear hca
   go_enter Try.func124, Try.ntmps124
   go_wp2_with (go_at_call 79; first | (with_reducible refine (HFa _).out.mono ?_; rintro en w1 ⟨rfl, rfl⟩) | (refine (HF _ _ _ _).out.mono ?_; rintro en w1 ⟨rfl, rfl⟩))
   all_goals
     go_ret
     refine ⟨?_, ?_⟩
     · rw [← HNV.out]
       congr 2
       simp [opR, *]
       try (rw [Bool.eq_iff_iff]; simp; done)
     · first | exact bA2 _ _ _ | exact bD2 _ _ _ _
 | false =>
   have HFa := fun (W : World) => hide ((to_i W a 0 ((P.gh.length : Int) - 1)).mono (fun en w' hh => (⟨by rw [hh.1, hqa], hh.2.symm⟩ : en = .returned (.bool false) ∧ w' = W)))
   go_enter Try.func124, Try.ntmps124
   go_wp2_with (go_at_call 79; first | (with_reducible refine (HFa _).out.mono ?_; rintro en w1 ⟨rfl, rfl⟩) | (refine (HF _ _ _ _).out.mono ?_; rintro en w1 ⟨rfl, rfl⟩))
   all_goals
     go_ret
     refine ⟨?_, ?_⟩
     · rw [← HNV.out]
       congr 2
       simp [opR, *]
       try (rw [Bool.eq_iff_iff]; simp; done)
     · first | exact bA2 _ _ _ | exact bD2 _ _ _ _
set_option maxRecDepth 100000 in
theorem operands_k19 (w : World) (q : PlV) (P : Pl) (x : Ac) (h : Pm w q P) (hx : x.k = 19) :
   Calls Try.prog 124 #[q.val, x.val] w fun en w' => en = .returned (.bool (opR P x)) ∧ Below w.heap.size w w' := by
 obtain ⟨k, a, b, c, d, n⟩ := x
 simp only at hx
 subst hx
 obtain ⟨e1, e2, e3, hs, l1, l2, l3⟩ := h
 obtain ⟨ga, va, ta, oa, ma, gl, gc, vl, vc, tl, tc, ol, oc, ml, mc⟩ := q
 simp only at e1 e2 e3 hs
 subst e1 e2 e3
 have HF := fun (W : World) (y lo hi : Int) => hide (to_q W y lo hi)
 obtain ⟨nv, hnv⟩ : ∃ nv, opR P ⟨19, a, b, c, d, n⟩ = nv := ⟨_, rfl⟩
 rw [hnv]
 have HNV := hide hnv
 clear hnv
 unfold maxLen at l1 l2 l3
 simp only [Ac.val, PlV.val]
 have u1 := IntWalk.i64_in ((P.gh.length : Int) - 1) (by omega)
 have u2 := IntWalk.i64_in ((P.vs.length : Int) - 1) (by omega)
 have u3 := IntWalk.i64_in ((P.ts.length : Int) - 1) (by omega)
 go_enter Try.func124, Try.ntmps124
 go_wp2_with (go_at_call 79; refine (HF _ _ _ _).out.mono ?_; rintro en w1 ⟨rfl, rfl⟩)
 all_goals
   go_ret
   refine ⟨?_, ?_⟩
   · rw [← HNV.out]
     congr 2
     simp [opR, *]
     try (rw [Bool.eq_iff_iff]; simp; done)
   · first | exact bA2 _ _ _ | exact bD2 _ _ _ _
set_option maxRecDepth 100000 in
theorem operands_k20 (w : World) (q : PlV) (P : Pl) (x : Ac) (h : Pm w q P) (hx : x.k = 20) :
   Calls Try.prog 124 #[q.val, x.val] w fun en w' => en = .returned (.bool (opR P x)) ∧ Below w.heap.size w w' := by
 obtain ⟨k, a, b, c, d, n⟩ := x
 simp only at hx
 subst hx
 obtain ⟨e1, e2, e3, hs, l1, l2, l3⟩ := h
 obtain ⟨ga, va, ta, oa, ma, gl, gc, vl, vc, tl, tc, ol, oc, ml, mc⟩ := q
 simp only at e1 e2 e3 hs
 subst e1 e2 e3
 have HF := fun (W : World) (y lo hi : Int) => hide (to_q W y lo hi)
 obtain ⟨nv, hnv⟩ : ∃ nv, opR P ⟨20, a, b, c, d, n⟩ = nv := ⟨_, rfl⟩
 rw [hnv]
 have HNV := hide hnv
 clear hnv
 unfold maxLen at l1 l2 l3
 simp only [Ac.val, PlV.val]
 have u1 := IntWalk.i64_in ((P.gh.length : Int) - 1) (by omega)
 have u2 := IntWalk.i64_in ((P.vs.length : Int) - 1) (by omega)
 have u3 := IntWalk.i64_in ((P.ts.length : Int) - 1) (by omega)
 go_enter Try.func124, Try.ntmps124
 go_wp2_with (go_at_call 79; refine (HF _ _ _ _).out.mono ?_; rintro en w1 ⟨rfl, rfl⟩)
 all_goals
   go_ret
   refine ⟨?_, ?_⟩
   · rw [← HNV.out]
     congr 2
     simp [opR, *]
     try (rw [Bool.eq_iff_iff]; simp; done)
   · first | exact bA2 _ _ _ | exact bD2 _ _ _ _
set_option maxRecDepth 100000 in
theorem operands_k22 (w : World) (q : PlV) (P : Pl) (x : Ac) (h : Pm w q P) (hx : x.k = 22) :
   Calls Try.prog 124 #[q.val, x.val] w fun en w' => en = .returned (.bool (opR P x)) ∧ Below w.heap.size w w' := by
 obtain ⟨k, a, b, c, d, n⟩ := x
 simp only at hx
 subst hx
 obtain ⟨e1, e2, e3, hs, l1, l2, l3⟩ := h
 obtain ⟨ga, va, ta, oa, ma, gl, gc, vl, vc, tl, tc, ol, oc, ml, mc⟩ := q
 simp only at e1 e2 e3 hs
 subst e1 e2 e3
 have HF := fun (W : World) (y lo hi : Int) => hide (to_q W y lo hi)
 obtain ⟨nv, hnv⟩ : ∃ nv, opR P ⟨22, a, b, c, d, n⟩ = nv := ⟨_, rfl⟩
 rw [hnv]
 have HNV := hide hnv
 clear hnv
 unfold maxLen at l1 l2 l3
 simp only [Ac.val, PlV.val]
 have u1 := IntWalk.i64_in ((P.gh.length : Int) - 1) (by omega)
 have u2 := IntWalk.i64_in ((P.vs.length : Int) - 1) (by omega)
 have u3 := IntWalk.i64_in ((P.ts.length : Int) - 1) (by omega)
 go_enter Try.func124, Try.ntmps124
 go_wp2_with (go_at_call 79; refine (HF _ _ _ _).out.mono ?_; rintro en w1 ⟨rfl, rfl⟩)
 all_goals
   go_ret
   refine ⟨?_, ?_⟩
   · rw [← HNV.out]
     congr 2
     simp [opR, *]
     try (rw [Bool.eq_iff_iff]; simp; done)
   · first | exact bA2 _ _ _ | exact bD2 _ _ _ _
set_option maxRecDepth 100000 in
theorem operands_k24 (w : World) (q : PlV) (P : Pl) (x : Ac) (h : Pm w q P) (hx : x.k = 24) :
   Calls Try.prog 124 #[q.val, x.val] w fun en w' => en = .returned (.bool (opR P x)) ∧ Below w.heap.size w w' := by
 obtain ⟨k, a, b, c, d, n⟩ := x
 simp only at hx
 subst hx
 obtain ⟨e1, e2, e3, hs, l1, l2, l3⟩ := h
 obtain ⟨ga, va, ta, oa, ma, gl, gc, vl, vc, tl, tc, ol, oc, ml, mc⟩ := q
 simp only at e1 e2 e3 hs
 subst e1 e2 e3
 have HF := fun (W : World) (y lo hi : Int) => hide (to_q W y lo hi)
 obtain ⟨nv, hnv⟩ : ∃ nv, opR P ⟨24, a, b, c, d, n⟩ = nv := ⟨_, rfl⟩
 rw [hnv]
 have HNV := hide hnv
 clear hnv
 unfold maxLen at l1 l2 l3
 simp only [Ac.val, PlV.val]
 have u1 := IntWalk.i64_in ((P.gh.length : Int) - 1) (by omega)
 have u2 := IntWalk.i64_in ((P.vs.length : Int) - 1) (by omega)
 have u3 := IntWalk.i64_in ((P.ts.length : Int) - 1) (by omega)
 go_enter Try.func124, Try.ntmps124
 go_wp2_with (go_at_call 79; refine (HF _ _ _ _).out.mono ?_; rintro en w1 ⟨rfl, rfl⟩)
 all_goals
   go_ret
   refine ⟨?_, ?_⟩
   · rw [← HNV.out]
     congr 2
     simp [opR, *]
     try (rw [Bool.eq_iff_iff]; simp; done)
   · first | exact bA2 _ _ _ | exact bD2 _ _ _ _
end Go.Proofs.Ytdpokdcendgfeaa
namespace Go.Proofs.Ytdpokdcendgfeaa
open Go.RowKit
theorem chainE_succ {E : Nat → Nat} : ∀ (m n : Nat), chainE E (m + 1) n = E (chainE E m n)
 | 0, n => rfl
 | m + 1, n => by
   have := chainE_succ (E := E) m (E n)
   simp only [chainE] at this ⊢
   exact this
/-- the rows are a tree by their kids -/
def EvTree (l : List Ac) : Prop := endE l 0 = l.length ∧ ∀ j, j < l.length → TreeAt l (endE l) j
/-- ends, from the place m on -/
def endsE (l : List Ac) (m : Nat) : List Int := (List.range l.length).map fun j => if m ≤ j then ((endE l j : Nat) : Int) else 0
theorem endsE_length (l : List Ac) (m : Nat) : (endsE l m).length = l.length := by simp [endsE]
theorem endsE_start (l : List Ac) : endsE l l.length = List.replicate l.length 0 := by
 apply List.ext_getElem?
 intro j
 simp only [endsE, List.getElem?_map, List.getElem?_replicate]
 by_cases hj : j < l.length
 · rw [List.getElem?_range hj, if_pos hj, Option.map_some, if_neg (by omega)]
 · rw [List.getElem?_eq_none (by simp; omega), if_neg hj]
   rfl
theorem endsE_get {l : List Ac} {m j : Nat} (h1 : m ≤ j) (h2 : j < l.length) : (endsE l m)[j]? = some ((endE l j : Nat) : Int) := by
 simp only [endsE, List.getElem?_map, List.getElem?_range h2, Option.map_some, if_pos h1]
theorem endsE_low {l : List Ac} {m j : Nat} (h1 : j < m) (h2 : j < l.length) : (endsE l m)[j]? = some 0 := by
 simp only [endsE, List.getElem?_map, List.getElem?_range h2, Option.map_some, if_neg (show ¬ m ≤ j by omega)]
theorem endsE_set {l : List Ac} {a : Nat} (h2 : a < l.length) : (endsE l (a + 1)).set a ((endE l a : Nat) : Int) = endsE l a := by
 apply List.ext_getElem?
 intro j
 rw [List.getElem?_set, endsE_length]
 by_cases hj : a = j
 · subst hj
   rw [if_pos rfl, if_pos h2, endsE_get (Nat.le_refl _) h2]
 · rw [if_neg hj]
   simp only [endsE, List.getElem?_map]
   by_cases hl : j < l.length
   · rw [List.getElem?_range hl]
     simp only [Option.map_some]
     by_cases h : a ≤ j
     · rw [if_pos (by omega), if_pos h]
     · rw [if_neg (by omega), if_neg h]
   · rw [List.getElem?_eq_none (by simp; omega)]
     rfl
theorem kids_tree {l : List Ac} {a : Nat} (h : ∀ j, a ≤ j → j < l.length → KidsIn l j) {j : Nat} (h1 : a ≤ j) (h2 : j < l.length) : TreeAt l (endE l) j :=
 (kids_ends l.length j h2 (by omega) (fun i c d => h i (by omega) d)).2.2
theorem kids_bad {l : List Ac} {a k : Nat} {x : Ac} (hx : l[a]? = some x) (hk : k < x.n.toNat) (hb : l.length ≤ chainE (endE l) k (a + 1)) : ¬ EvTree l := fun h => by
 obtain ⟨y, hy, _, h2, _⟩ := h.2 a (List.getElem?_eq_some_iff.1 hx).1
 rw [hx] at hy
 injection hy with hy
 subst hy
 have := h2 k hk
 omega
/-- what Ends tells -/
def EndsTold (w : World) (l : List Ac) (en : Ending) (w' : World) : Prop := Below w.heap.size w w' ∧ ((en = .returned (.slice none 0 0) ∧ ¬ EvTree l) ∨ (en = .returned (.slice (some ⟨w.heap.size, 0, none⟩) l.length l.length) ∧ EvTree l ∧ Blk w' w.heap.size 3 (ints (endsE l 0)).toArray))
set_option maxRecDepth 100000 in
theorem endsR_i (w : World) (ad : Addr) (c : Nat) (l : List Ac) (h : Src w (some ad) l.length (acs l)) (hl : l.length ≤ 1048576) (h0 : 0 < l.length) :
   Calls Try.prog 80 #[.slice (some ad) l.length c] w fun en w' => EndsTold w l en w' := by
 have HS := hide h
 have HMK := hide (make_ints w l.length (by omega))
 have hmk := HMK.out
 have HB0 := hide ((Below.refl w.heap.size w).alloc (Nat.le_refl _) (.cells (ints (List.replicate l.length 0)).toArray 3))
 have HK0 := hide (Blk.new w 3 (ints (List.replicate l.length 0)).toArray)
 have hL : (0 : Int) < (l.length : Int) := by omega
 have u1 := IntWalk.i64_in ((l.length : Int) - 1) (by omega)
 clear h
 go_enter Try.func80, Try.ntmps80
 go_wp2_with fail
 clear hmk
 go_loopw [4] (fun t4 W => ∃ m : Nat, t4 = .int .i64 ((m : Int) - 1) ∧ m ≤ l.length ∧ (∀ j, m ≤ j → j < l.length → KidsIn l j) ∧ Blk W w.heap.size 3 (ints (endsE l m)).toArray ∧ Below w.heap.size w W) (fun t4 _ => (intOf t4 + 1).toNat)
 case atStart => exact ⟨l.length, rfl, Nat.le_refl _, fun j a b => by omega, by rw [endsE_start]; exact HK0.out, HB0.out⟩
 case round =>
   obtain ⟨m, rfl, hm, hK, hk, hb⟩ := hrel
   rename World => W
   have HKI := hide hK
   clear hK
   by_cases hm0 : m = 0
   · subst hm0
     have HK := hide hk
     have HB := hide hb
     have c0 := blk_int hk (endsE_get (m := 0) (j := 0) (Nat.le_refl _) h0)
     obtain ⟨E0, hE0⟩ : ∃ E0 : Nat, endE l 0 = E0 := ⟨_, rfl⟩
     rw [hE0] at c0
     have HE0 := hide hE0
     clear hk hb hE0
     by_cases hEl : E0 = l.length
     · subst hEl
       go_wp2_with fail
       go_ret
       exact ⟨HB.out, .inr ⟨rfl, ⟨HE0.out, fun j hj => kids_tree HKI.out (Nat.zero_le _) hj⟩, HK.out⟩⟩
     · have hne : ¬ (E0 : Int) = (l.length : Int) := by omega
       go_wp2_with fail
       go_ret
       exact ⟨HB.out, .inl ⟨rfl, fun h9 => hEl (HE0.out.symm.trans h9.1)⟩⟩
   · obtain ⟨a, rfl⟩ : ∃ a, m = a + 1 := ⟨m - 1, by omega⟩
     obtain ⟨x, hx⟩ : ∃ x, l[a]? = some x := ⟨_, List.getElem?_eq_getElem (by omega)⟩
     have HX := hide hx
     have hwa : (((a + 1 : Nat) : Int) - 1) = (a : Int) := by omega
     rw [hwa]
     have ha0 : (0 : Int) ≤ (a : Int) := by omega
     have haL : (a : Int) < (l.length : Int) := by omega
     have u2 := IntWalk.i64_in ((a : Int) + 1) (by omega)
     have HK := hide hk
     have HB := hide hb
     obtain ⟨ad', e', hab, _, _, _, _, _, q5⟩ := acs_row (HS.out.below hb) hx
     cases e'
     by_cases hn0 : x.n < 0
     · have HN := hide hn0
       clear hk hb hab hx hwa hm0
       go_wp2_with fail
       go_ret
       refine ⟨HB.out, .inl ⟨rfl, fun h9 => ?_⟩⟩
       have := tree_small h9.2 HX.out
       have := HN.out
       omega
     · by_cases hn1 : (l.length : Int) < x.n
       · have HN := hide hn1
         clear hk hb hab hx hwa hm0
         go_wp2_with fail
         go_ret
         refine ⟨HB.out, .inl ⟨rfl, fun h9 => ?_⟩⟩
         have := tree_small h9.2 HX.out
         have := HN.out
         omega
       · obtain ⟨N, hN⟩ : ∃ N : Nat, x.n = (N : Int) := ⟨x.n.toNat, by omega⟩
         have HN := hide hN
         rw [hN] at q5 hn0 hn1
         have hfz := hk.frozen a
         have hbk := hk.lt
         clear hab hx hwa hm0 hN hk hb
         go_wp2_with fail
         go_loopw [5, 6] (fun t5 t6 W' => ∃ k next : Nat, t5 = .int .i64 (next : Int) ∧ t6 = .int .i64 (k : Int) ∧ k ≤ N ∧ a < next ∧ Hid (chainE (endE l) k (a + 1) = next) ∧ (∀ i, i < k → chainE (endE l) i (a + 1) < l.length) ∧ W' = W) (fun _ t6 _ => N - (intOf t6).toNat)
         case atStart => exact ⟨0, a + 1, rfl, rfl, Nat.zero_le _, by omega, hide rfl, fun i hi => by omega, rfl⟩
         case round =>
           obtain ⟨k, next, rfl, rfl, hkN, hna, HCH, hch, rfl⟩ := hrel
           have HC2 := hide hch
           have u3 := IntWalk.i64_in ((k : Int) + 1) (by omega)
           clear hch
           by_cases hlt : k < N
           · have hltI : (k : Int) < (N : Int) := by omega
             by_cases hnl : next < l.length
             · have hnI : ¬ (l.length : Int) ≤ (next : Int) := by omega
               have hnI2 : (next : Int) < (l.length : Int) := by omega
               have hn0' : (0 : Int) ≤ (next : Int) := by omega
               have c1 := blk_int HK.out (endsE_get (l := l) (m := a + 1) (j := next) (by omega) hnl)
               have HGE := hide (endE_ge (l := l) (j := next) (by omega))
               obtain ⟨E1, hE1⟩ : ∃ E1 : Nat, endE l next = E1 := ⟨_, rfl⟩
               rw [hE1] at c1
               have HE1 := hide hE1
               clear hE1
               go_wp2_with fail
               go_roundw
               case rel =>
                 refine ⟨k + 1, E1, rfl, by go_num, by omega, ?_, hide ?_, fun i hi => ?_, trivial⟩
                 · have := HGE.out
                   have := HE1.out
                   omega
                 · rw [chainE_succ, HCH.out, HE1.out]
                 · rcases Nat.lt_or_ge i k with h9 | h9
                   · exact HC2.out i h9
                   · obtain rfl : i = k := by omega
                     rw [HCH.out]
                     exact hnl
               case measure =>
                 simp only [intOf]
                 omega
             · have hnI : (l.length : Int) ≤ (next : Int) := by omega
               go_wp2_with fail
               go_ret
               refine ⟨HB.out, .inl ⟨rfl, kids_bad HX.out (k := k) ?_ ?_⟩⟩
               · rw [HN.out, Int.toNat_natCast]; exact hlt
               · rw [HCH.out]; omega
           · have hltI : ¬ (k : Int) < (N : Int) := by omega
             obtain rfl : k = N := by omega
             have HKI2 : Hid (∀ j, a ≤ j → j < l.length → KidsIn l j) := hide (fun j h1 h2 => by
               rcases Nat.eq_or_lt_of_le h1 with rfl | h3
               · exact ⟨x, HX.out, by rw [HN.out]; omega, fun i hi => HC2.out i (by rw [HN.out, Int.toNat_natCast] at hi; exact hi)⟩
               · exact HKI.out j h3 h2)
             have HEA : Hid (endE l a = next) := hide (by
               obtain ⟨y, hy, _, _, h3⟩ := kids_tree HKI2.out (Nat.le_refl _) (show a < l.length by omega)
               rw [HX.out] at hy
               injection hy with hy
               subst hy
               rw [h3, HN.out, Int.toNat_natCast, HCH.out])
             have HK3 := hide (HK.out.set_ a (.int .i64 (next : Int)))
             have HB3 := hide (HB.out.setCell (p := ⟨w.heap.size, a, none⟩) (Nat.le_refl _) (.int .i64 (next : Int)))
             have hc0 := blk_int HK.out (endsE_low (l := l) (m := a + 1) (j := a) (by omega) (by omega))
             have u4 := IntWalk.i64_in ((a : Int) - 1) (by omega)
             go_wp2_with fail
             go_roundw
             case rel =>
               refine ⟨a, rfl, by omega, HKI2.out, ?_, HB3.out⟩
               have := HK3.out
               have hset := endsE_set (l := l) (a := a) (by omega)
               rw [HEA.out] at hset
               rw [ints_set, hset] at this
               exact this
             case measure =>
               simp only [intOf]
               omega
end Go.Proofs.Ytdpokdcendgfeaa
