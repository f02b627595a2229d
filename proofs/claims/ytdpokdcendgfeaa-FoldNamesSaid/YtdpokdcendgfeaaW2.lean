/- Several texts in one: The walk of numbers. A plan in memory. The walk of fold.end. Steps of regions that draw their order: an append to an own row, a call; words on own rows. Nothing here names the program. The walk of fold.kids. Conditions: those of each. -/
import Derived.Test.YtdpokdcendgfeaaW1
import Derived.Deep.RegionLaw
import Derived.Deep.RegionWith
import Derived.OwnWalk
import Derived.Maps.AppendAt
set_option linter.unusedSimpArgs false
set_option linter.unusedVariables false
set_option maxHeartbeats 80000000
namespace Go.Proofs.Ytdpokdcendgfeaa
open Go.RowKit
theorem quiet_nn {P : Program} {f : FuncId} {args : Array Value} {w : World} {m n : Nat} {v : Value} (h : Calls P f args (w.drewN (m + n)) fun e w' => e = .returned v ∧ w' = w.drewN (m + n)) : Calls P f args (w.drewN (m + n)) fun e w'' => e = .returned v ∧ ∃ k, w'' = w.drewN (m + k) :=
 h.mono fun _ _ ⟨he, hm⟩ => ⟨he, n, hm⟩
theorem bA (w : World) (o : Obj) : Below w.heap.size w (w.alloc o) := (Below.refl _ w).alloc (Nat.le_refl _) _
theorem bD (w : World) (o : Obj) (n : Nat) : Below w.heap.size w ((w.alloc o).drewN n) := below_drewN (bA w o) n
theorem ck_cells {w : World} {g : Nat} {t : TypeId} {ga va ta oa ma ra : Option Addr} {gl gc vl vc tl tc ol oc ml mc rl rc i : Nat} (hk : Blk w g t (chk ⟨ga, va, ta, oa, ma, gl, gc, vl, vc, tl, tc, ol, oc, ml, mc⟩ ra rl rc i)) (o : Obj) :
   (w.alloc o).cell? ⟨g, 0, none⟩ = some (.slice ga gl gc) ∧ (w.alloc o).cell? ⟨g, 1, none⟩ = some (.slice va vl vc) ∧ (w.alloc o).cell? ⟨g, 2, none⟩ = some (.slice ta tl tc) :=
 ⟨(World.cell?_alloc_lt w _ _ hk.lt).trans (by rw [hk.cell]; rfl), (World.cell?_alloc_lt w _ _ hk.lt).trans (by rw [hk.cell]; rfl), (World.cell?_alloc_lt w _ _ hk.lt).trans (by rw [hk.cell]; rfl)⟩
def bools (l : List Bool) : List Value := l.map (.bool)
/-- the checker, as the walks need it -/
structure Ck (w : World) (g : Nat) (q : PlV) (P : Pl) (ra : Option Addr) (rl rc i : Nat) : Prop where
 k : Blk w g 106 (chk q ra rl rc i)
 gl : q.gl = P.gh.length
 vl : q.vl = P.vs.length
 tl : q.tl = P.ts.length
 gs : Src w q.ga P.gh.length (bools P.gh)
 l : P.gh.length ≤ maxLen ∧ P.vs.length ≤ maxLen ∧ P.ts.length ≤ maxLen
theorem Ck.below {w w' : World} {g : Nat} {q : PlV} {P : Pl} {ra : Option Addr} {rl rc i : Nat} (h : Ck w g q P ra rl rc i) (hb : Below w.heap.size w w') : Ck w' g q P ra rl rc i :=
 ⟨h.k.below hb h.k.lt, h.gl, h.vl, h.tl, h.gs.below hb, h.l⟩
theorem gh_at {w : World} {oa : Option Addr} {l : List Bool} {a : Int} (h : Src w oa l.length (bools l)) (hq : qV l a = true) : ∃ ad, oa = some ad ∧ ad.block < w.heap.size ∧ 0 ≤ a ∧ a < (l.length : Int) ∧ w.cell? (ad.add a.toNat) = some (.bool (ghV l a)) := by
 simp only [qV, fromV, Bool.and_eq_true, decide_eq_true_eq] at hq
 obtain ⟨ad, e, hl, hx⟩ := h (by omega)
 refine ⟨ad, e, hl, hq.1, by omega, hx _ _ ?_⟩
 have : a.toNat < l.length := by omega
 simp [bools, ghV, this]
set_option maxRecDepth 100000 in
theorem numbers_k3 (w : World) (g : Nat) (q : PlV) (P : Pl) (ra : Option Addr) (rl rc i : Nat) (x : Ac) (h : Ck w g q P ra rl rc i) (hx : x.k = 3) :
   Calls Try.prog 102 #[.pointer (some ⟨g, 0, none⟩), x.val] w fun en w' => en = .returned (.bool (numV P x)) ∧ Below w.heap.size w w' := by
 obtain ⟨k, a, b, c, d, n⟩ := x
 simp only at hx
 subst hx
 obtain ⟨hk, e1, e2, e3, hs, l1, l2, l3⟩ := h
 obtain ⟨ga, va, ta, oa, ma, gl, gc, vl, vc, tl, tc, ol, oc, ml, mc⟩ := q
 simp only at e1 e2 e3 hs
 subst e1 e2 e3
 have HQ0 := fun (W : World) (y : Int) (hb : Below w.heap.size w W) => hide ((queue_i W g _ ra rl rc i y (hk.below hb hk.lt) l1).mono (fun en w' hh => (⟨hh.1, hh.2.symm⟩ : en = .returned (.bool (fromV y 0 ((P.gh.length : Int) - 1))) ∧ w' = W)))
 have HF := fun (W : World) (y lo hi : Int) => hide ((from_i W y lo hi).mono (fun en w' hh => (⟨hh.1, hh.2.symm⟩ : en = .returned (.bool (fromV y lo hi)) ∧ w' = W)))
 obtain ⟨nv, hnv⟩ : ∃ nv, numV P ⟨3, a, b, c, d, n⟩ = nv := ⟨_, rfl⟩
 rw [hnv]
 have HNV := hide hnv
 clear hnv
 have HQA := fun (W : World) (hb : Below w.heap.size w W) => HQ0 W a hb
 have HQC := fun (W : World) (hb : Below w.heap.size w W) => HQ0 W c hb
 clear HQ0
 unfold maxLen at l1 l2 l3
 simp only [Ac.val]
 have hlt := hk.lt
 obtain ⟨ce0, ce1, ce2⟩ := ck_cells hk (.cells #[.int .i64 3, .int .i64 a, .int .i64 b, .int .i64 c, .int .i64 d, .int .i64 n] 49)
 have u1 := IntWalk.i64_in ((P.gh.length : Int) - 1) (by omega)
 have u2 := IntWalk.i64_in ((P.vs.length : Int) - 1) (by omega)
 have u3 := IntWalk.i64_in ((P.ts.length : Int) - 1) (by omega)
 go_enter Try.func102, Try.ntmps102
 go_wp2_with fail
 by_cases hc : c = 0
 case' pos => subst hc
 case' neg =>
   have hc1 : (c == 0) = false := by simp [hc]
   have hc2 : decide (c = 0) = false := by simp [hc]
 all_goals
   go_quiet (fail)
   go_wp2_with (first | (go_at_call 63; refine (HF _ _ _ _).out.mono ?_; rintro en w1 ⟨rfl, rfl⟩) | (go_at_call 135; refine (HQA _ (bD _ _ _)).out.mono ?_; rintro en w1 ⟨rfl, rfl⟩))
   all_goals try (go_quiet (first | (go_at_call 63; exact quiet_nn (HF _ _ _ _).out) | (go_at_call 135; exact quiet_nn (HQA _ (bD _ _ _)).out) | (go_at_call 135; exact quiet_nn (HQC _ (bD _ _ _)).out)); go_wp2_with (first | (go_at_call 63; refine (HF _ _ _ _).out.mono ?_; rintro en w1 ⟨rfl, rfl⟩) | (go_at_call 135; refine (HQA _ (bD _ _ _)).out.mono ?_; rintro en w1 ⟨rfl, rfl⟩)))
   all_goals
     go_ret
     refine ⟨?_, ?_⟩
     · rw [← HNV.out]
       congr 2
       simp [numV, qV, *]
       try (rw [Bool.eq_iff_iff]; simp; done)
     · first | exact bA _ _ | exact bD _ _ _
set_option maxRecDepth 100000 in
theorem numbers_k4 (w : World) (g : Nat) (q : PlV) (P : Pl) (ra : Option Addr) (rl rc i : Nat) (x : Ac) (h : Ck w g q P ra rl rc i) (hx : x.k = 4) :
   Calls Try.prog 102 #[.pointer (some ⟨g, 0, none⟩), x.val] w fun en w' => en = .returned (.bool (numV P x)) ∧ Below w.heap.size w w' := by
 obtain ⟨k, a, b, c, d, n⟩ := x
 simp only at hx
 subst hx
 obtain ⟨hk, e1, e2, e3, hs, l1, l2, l3⟩ := h
 obtain ⟨ga, va, ta, oa, ma, gl, gc, vl, vc, tl, tc, ol, oc, ml, mc⟩ := q
 simp only at e1 e2 e3 hs
 subst e1 e2 e3
 have HQ0 := fun (W : World) (y : Int) (hb : Below w.heap.size w W) => hide ((queue_i W g _ ra rl rc i y (hk.below hb hk.lt) l1).mono (fun en w' hh => (⟨hh.1, hh.2.symm⟩ : en = .returned (.bool (fromV y 0 ((P.gh.length : Int) - 1))) ∧ w' = W)))
 have HF := fun (W : World) (y lo hi : Int) => hide ((from_i W y lo hi).mono (fun en w' hh => (⟨hh.1, hh.2.symm⟩ : en = .returned (.bool (fromV y lo hi)) ∧ w' = W)))
 obtain ⟨nv, hnv⟩ : ∃ nv, numV P ⟨4, a, b, c, d, n⟩ = nv := ⟨_, rfl⟩
 rw [hnv]
 have HNV := hide hnv
 clear hnv
 have HQA := fun (W : World) (hb : Below w.heap.size w W) => HQ0 W a hb
 have HQC := fun (W : World) (hb : Below w.heap.size w W) => HQ0 W c hb
 clear HQ0
 unfold maxLen at l1 l2 l3
 simp only [Ac.val]
 have hlt := hk.lt
 obtain ⟨ce0, ce1, ce2⟩ := ck_cells hk (.cells #[.int .i64 4, .int .i64 a, .int .i64 b, .int .i64 c, .int .i64 d, .int .i64 n] 49)
 have u1 := IntWalk.i64_in ((P.gh.length : Int) - 1) (by omega)
 have u2 := IntWalk.i64_in ((P.vs.length : Int) - 1) (by omega)
 have u3 := IntWalk.i64_in ((P.ts.length : Int) - 1) (by omega)
 go_enter Try.func102, Try.ntmps102
 go_wp2_with fail
 by_cases hc : c = 0
 case' pos => subst hc
 case' neg =>
   have hc1 : (c == 0) = false := by simp [hc]
   have hc2 : decide (c = 0) = false := by simp [hc]
 all_goals
   go_quiet (fail)
   go_wp2_with (first | (go_at_call 63; refine (HF _ _ _ _).out.mono ?_; rintro en w1 ⟨rfl, rfl⟩) | (go_at_call 135; refine (HQA _ (bD _ _ _)).out.mono ?_; rintro en w1 ⟨rfl, rfl⟩))
   all_goals try (go_quiet (first | (go_at_call 63; exact quiet_nn (HF _ _ _ _).out) | (go_at_call 135; exact quiet_nn (HQA _ (bD _ _ _)).out) | (go_at_call 135; exact quiet_nn (HQC _ (bD _ _ _)).out)); go_wp2_with (first | (go_at_call 63; refine (HF _ _ _ _).out.mono ?_; rintro en w1 ⟨rfl, rfl⟩) | (go_at_call 135; refine (HQA _ (bD _ _ _)).out.mono ?_; rintro en w1 ⟨rfl, rfl⟩)))
   all_goals
     go_ret
     refine ⟨?_, ?_⟩
     · rw [← HNV.out]
       congr 2
       simp [numV, qV, *]
       try (rw [Bool.eq_iff_iff]; simp; done)
     · first | exact bA _ _ | exact bD _ _ _
set_option maxRecDepth 100000 in
theorem numbers_k21 (w : World) (g : Nat) (q : PlV) (P : Pl) (ra : Option Addr) (rl rc i : Nat) (x : Ac) (h : Ck w g q P ra rl rc i) (hx : x.k = 21) :
   Calls Try.prog 102 #[.pointer (some ⟨g, 0, none⟩), x.val] w fun en w' => en = .returned (.bool (numV P x)) ∧ Below w.heap.size w w' := by
 obtain ⟨k, a, b, c, d, n⟩ := x
 simp only at hx
 subst hx
 obtain ⟨hk, e1, e2, e3, hs, l1, l2, l3⟩ := h
 obtain ⟨ga, va, ta, oa, ma, gl, gc, vl, vc, tl, tc, ol, oc, ml, mc⟩ := q
 simp only at e1 e2 e3 hs
 subst e1 e2 e3
 have HQ0 := fun (W : World) (y : Int) (hb : Below w.heap.size w W) => hide ((queue_i W g _ ra rl rc i y (hk.below hb hk.lt) l1).mono (fun en w' hh => (⟨hh.1, hh.2.symm⟩ : en = .returned (.bool (fromV y 0 ((P.gh.length : Int) - 1))) ∧ w' = W)))
 have HF := fun (W : World) (y lo hi : Int) => hide ((from_i W y lo hi).mono (fun en w' hh => (⟨hh.1, hh.2.symm⟩ : en = .returned (.bool (fromV y lo hi)) ∧ w' = W)))
 obtain ⟨nv, hnv⟩ : ∃ nv, numV P ⟨21, a, b, c, d, n⟩ = nv := ⟨_, rfl⟩
 rw [hnv]
 have HNV := hide hnv
 clear hnv
 have HQA := fun (W : World) (hb : Below w.heap.size w W) => HQ0 W a hb
 have HQC := fun (W : World) (hb : Below w.heap.size w W) => HQ0 W c hb
 clear HQ0
 unfold maxLen at l1 l2 l3
 simp only [Ac.val]
 have hlt := hk.lt
 obtain ⟨ce0, ce1, ce2⟩ := ck_cells hk (.cells #[.int .i64 21, .int .i64 a, .int .i64 b, .int .i64 c, .int .i64 d, .int .i64 n] 49)
 have u1 := IntWalk.i64_in ((P.gh.length : Int) - 1) (by omega)
 have u2 := IntWalk.i64_in ((P.vs.length : Int) - 1) (by omega)
 have u3 := IntWalk.i64_in ((P.ts.length : Int) - 1) (by omega)
 go_enter Try.func102, Try.ntmps102
 go_wp2_with fail
 by_cases hc : c = 0
 case' pos => subst hc
 case' neg =>
   have hc1 : (c == 0) = false := by simp [hc]
   have hc2 : decide (c = 0) = false := by simp [hc]
 all_goals
   go_quiet (fail)
   go_wp2_with (first | (go_at_call 63; refine (HF _ _ _ _).out.mono ?_; rintro en w1 ⟨rfl, rfl⟩) | (go_at_call 135; refine (HQA _ (bD _ _ _)).out.mono ?_; rintro en w1 ⟨rfl, rfl⟩))
   all_goals try (go_quiet (first | (go_at_call 63; exact quiet_nn (HF _ _ _ _).out) | (go_at_call 135; exact quiet_nn (HQA _ (bD _ _ _)).out) | (go_at_call 135; exact quiet_nn (HQC _ (bD _ _ _)).out)); go_wp2_with (first | (go_at_call 63; refine (HF _ _ _ _).out.mono ?_; rintro en w1 ⟨rfl, rfl⟩) | (go_at_call 135; refine (HQA _ (bD _ _ _)).out.mono ?_; rintro en w1 ⟨rfl, rfl⟩)))
   all_goals
     go_ret
     refine ⟨?_, ?_⟩
     · rw [← HNV.out]
       congr 2
       simp [numV, qV, *]
       try (rw [Bool.eq_iff_iff]; simp; done)
     · first | exact bA _ _ | exact bD _ _ _
set_option maxRecDepth 100000 in
theorem numbers_k5 (w : World) (g : Nat) (q : PlV) (P : Pl) (ra : Option Addr) (rl rc i : Nat) (x : Ac) (h : Ck w g q P ra rl rc i) (hx : x.k = 5) :
   Calls Try.prog 102 #[.pointer (some ⟨g, 0, none⟩), x.val] w fun en w' => en = .returned (.bool (numV P x)) ∧ Below w.heap.size w w' := by
 obtain ⟨k, a, b, c, d, n⟩ := x
 simp only at hx
 subst hx
 obtain ⟨hk, e1, e2, e3, hs, l1, l2, l3⟩ := h
 obtain ⟨ga, va, ta, oa, ma, gl, gc, vl, vc, tl, tc, ol, oc, ml, mc⟩ := q
 simp only at e1 e2 e3 hs
 subst e1 e2 e3
 have HQ0 := fun (W : World) (y : Int) (hb : Below w.heap.size w W) => hide ((queue_i W g _ ra rl rc i y (hk.below hb hk.lt) l1).mono (fun en w' hh => (⟨hh.1, hh.2.symm⟩ : en = .returned (.bool (fromV y 0 ((P.gh.length : Int) - 1))) ∧ w' = W)))
 have HF := fun (W : World) (y lo hi : Int) => hide ((from_i W y lo hi).mono (fun en w' hh => (⟨hh.1, hh.2.symm⟩ : en = .returned (.bool (fromV y lo hi)) ∧ w' = W)))
 obtain ⟨nv, hnv⟩ : ∃ nv, numV P ⟨5, a, b, c, d, n⟩ = nv := ⟨_, rfl⟩
 rw [hnv]
 have HNV := hide hnv
 clear hnv
 have HQA := fun (W : World) (hb : Below w.heap.size w W) => HQ0 W a hb
 have HQC := fun (W : World) (hb : Below w.heap.size w W) => HQ0 W c hb
 clear HQ0
 unfold maxLen at l1 l2 l3
 simp only [Ac.val]
 have hlt := hk.lt
 obtain ⟨ce0, ce1, ce2⟩ := ck_cells hk (.cells #[.int .i64 5, .int .i64 a, .int .i64 b, .int .i64 c, .int .i64 d, .int .i64 n] 49)
 have u1 := IntWalk.i64_in ((P.gh.length : Int) - 1) (by omega)
 have u2 := IntWalk.i64_in ((P.vs.length : Int) - 1) (by omega)
 have u3 := IntWalk.i64_in ((P.ts.length : Int) - 1) (by omega)
 go_enter Try.func102, Try.ntmps102
 go_wp2_with fail
 by_cases hc : c = 0
 case' pos => subst hc
 case' neg =>
   have hc1 : (c == 0) = false := by simp [hc]
   have hc2 : decide (c = 0) = false := by simp [hc]
 all_goals
   go_quiet (fail)
   go_wp2_with (first | (go_at_call 63; refine (HF _ _ _ _).out.mono ?_; rintro en w1 ⟨rfl, rfl⟩) | (go_at_call 135; refine (HQA _ (bD _ _ _)).out.mono ?_; rintro en w1 ⟨rfl, rfl⟩))
   all_goals try (go_quiet (first | (go_at_call 63; exact quiet_nn (HF _ _ _ _).out) | (go_at_call 135; exact quiet_nn (HQA _ (bD _ _ _)).out) | (go_at_call 135; exact quiet_nn (HQC _ (bD _ _ _)).out)); go_wp2_with (first | (go_at_call 63; refine (HF _ _ _ _).out.mono ?_; rintro en w1 ⟨rfl, rfl⟩) | (go_at_call 135; refine (HQA _ (bD _ _ _)).out.mono ?_; rintro en w1 ⟨rfl, rfl⟩)))
   all_goals
     go_ret
     refine ⟨?_, ?_⟩
     · rw [← HNV.out]
       congr 2
       simp [numV, qV, *]
       try (rw [Bool.eq_iff_iff]; simp; done)
     · first | exact bA _ _ | exact bD _ _ _
set_option maxRecDepth 100000 in
theorem numbers_k25 (w : World) (g : Nat) (q : PlV) (P : Pl) (ra : Option Addr) (rl rc i : Nat) (x : Ac) (h : Ck w g q P ra rl rc i) (hx : x.k = 25) :
   Calls Try.prog 102 #[.pointer (some ⟨g, 0, none⟩), x.val] w fun en w' => en = .returned (.bool (numV P x)) ∧ Below w.heap.size w w' := by
 obtain ⟨k, a, b, c, d, n⟩ := x
 simp only at hx
 subst hx
 obtain ⟨hk, e1, e2, e3, hs, l1, l2, l3⟩ := h
 obtain ⟨ga, va, ta, oa, ma, gl, gc, vl, vc, tl, tc, ol, oc, ml, mc⟩ := q
 simp only at e1 e2 e3 hs
 subst e1 e2 e3
 have HQ0 := fun (W : World) (y : Int) (hb : Below w.heap.size w W) => hide ((queue_i W g _ ra rl rc i y (hk.below hb hk.lt) l1).mono (fun en w' hh => (⟨hh.1, hh.2.symm⟩ : en = .returned (.bool (fromV y 0 ((P.gh.length : Int) - 1))) ∧ w' = W)))
 have HF := fun (W : World) (y lo hi : Int) => hide ((from_i W y lo hi).mono (fun en w' hh => (⟨hh.1, hh.2.symm⟩ : en = .returned (.bool (fromV y lo hi)) ∧ w' = W)))
 obtain ⟨nv, hnv⟩ : ∃ nv, numV P ⟨25, a, b, c, d, n⟩ = nv := ⟨_, rfl⟩
 rw [hnv]
 have HNV := hide hnv
 clear hnv
 have HQA := fun (W : World) (hb : Below w.heap.size w W) => HQ0 W a hb
 have HQC := fun (W : World) (hb : Below w.heap.size w W) => HQ0 W c hb
 clear HQ0
 unfold maxLen at l1 l2 l3
 simp only [Ac.val]
 have hlt := hk.lt
 obtain ⟨ce0, ce1, ce2⟩ := ck_cells hk (.cells #[.int .i64 25, .int .i64 a, .int .i64 b, .int .i64 c, .int .i64 d, .int .i64 n] 49)
 have u1 := IntWalk.i64_in ((P.gh.length : Int) - 1) (by omega)
 have u2 := IntWalk.i64_in ((P.vs.length : Int) - 1) (by omega)
 have u3 := IntWalk.i64_in ((P.ts.length : Int) - 1) (by omega)
 go_enter Try.func102, Try.ntmps102
 go_wp2_with fail
 by_cases hc : c = 0
 case' pos => subst hc
 case' neg =>
   have hc1 : (c == 0) = false := by simp [hc]
   have hc2 : decide (c = 0) = false := by simp [hc]
 all_goals
   go_quiet (fail)
   go_wp2_with (first | (go_at_call 63; refine (HF _ _ _ _).out.mono ?_; rintro en w1 ⟨rfl, rfl⟩) | (go_at_call 135; refine (HQA _ (bD _ _ _)).out.mono ?_; rintro en w1 ⟨rfl, rfl⟩))
   all_goals try (go_quiet (first | (go_at_call 63; exact quiet_nn (HF _ _ _ _).out) | (go_at_call 135; exact quiet_nn (HQA _ (bD _ _ _)).out) | (go_at_call 135; exact quiet_nn (HQC _ (bD _ _ _)).out)); go_wp2_with (first | (go_at_call 63; refine (HF _ _ _ _).out.mono ?_; rintro en w1 ⟨rfl, rfl⟩) | (go_at_call 135; refine (HQA _ (bD _ _ _)).out.mono ?_; rintro en w1 ⟨rfl, rfl⟩)))
   all_goals
     go_ret
     refine ⟨?_, ?_⟩
     · rw [← HNV.out]
       congr 2
       simp [numV, qV, *]
       try (rw [Bool.eq_iff_iff]; simp; done)
     · first | exact bA _ _ | exact bD _ _ _
set_option maxRecDepth 100000 in
theorem numbers_k19 (w : World) (g : Nat) (q : PlV) (P : Pl) (ra : Option Addr) (rl rc i : Nat) (x : Ac) (h : Ck w g q P ra rl rc i) (hx : x.k = 19) :
   Calls Try.prog 102 #[.pointer (some ⟨g, 0, none⟩), x.val] w fun en w' => en = .returned (.bool (numV P x)) ∧ Below w.heap.size w w' := by
 obtain ⟨k, a, b, c, d, n⟩ := x
 simp only at hx
 subst hx
 obtain ⟨hk, e1, e2, e3, hs, l1, l2, l3⟩ := h
 obtain ⟨ga, va, ta, oa, ma, gl, gc, vl, vc, tl, tc, ol, oc, ml, mc⟩ := q
 simp only at e1 e2 e3 hs
 subst e1 e2 e3
 have HQ0 := fun (W : World) (y : Int) (hb : Below w.heap.size w W) => hide ((queue_i W g _ ra rl rc i y (hk.below hb hk.lt) l1).mono (fun en w' hh => (⟨hh.1, hh.2.symm⟩ : en = .returned (.bool (fromV y 0 ((P.gh.length : Int) - 1))) ∧ w' = W)))
 have HF := fun (W : World) (y lo hi : Int) => hide ((from_i W y lo hi).mono (fun en w' hh => (⟨hh.1, hh.2.symm⟩ : en = .returned (.bool (fromV y lo hi)) ∧ w' = W)))
 obtain ⟨nv, hnv⟩ : ∃ nv, numV P ⟨19, a, b, c, d, n⟩ = nv := ⟨_, rfl⟩
 rw [hnv]
 have HNV := hide hnv
 clear hnv
 have HQA := fun (W : World) (hb : Below w.heap.size w W) => HQ0 W a hb
 have HQC := fun (W : World) (hb : Below w.heap.size w W) => HQ0 W c hb
 clear HQ0
 unfold maxLen at l1 l2 l3
 simp only [Ac.val]
 have hlt := hk.lt
 obtain ⟨ce0, ce1, ce2⟩ := ck_cells hk (.cells #[.int .i64 19, .int .i64 a, .int .i64 b, .int .i64 c, .int .i64 d, .int .i64 n] 49)
 have u1 := IntWalk.i64_in ((P.gh.length : Int) - 1) (by omega)
 have u2 := IntWalk.i64_in ((P.vs.length : Int) - 1) (by omega)
 have u3 := IntWalk.i64_in ((P.ts.length : Int) - 1) (by omega)
 go_enter Try.func102, Try.ntmps102
 go_wp2_with fail
 by_cases hc : c = 0
 case' pos => subst hc
 case' neg =>
   have hc1 : (c == 0) = false := by simp [hc]
   have hc2 : decide (c = 0) = false := by simp [hc]
 all_goals
   go_quiet (fail)
   go_wp2_with (first | (go_at_call 63; refine (HF _ _ _ _).out.mono ?_; rintro en w1 ⟨rfl, rfl⟩) | (go_at_call 135; refine (HQA _ (bD _ _ _)).out.mono ?_; rintro en w1 ⟨rfl, rfl⟩))
   all_goals try (go_quiet (first | (go_at_call 63; exact quiet_nn (HF _ _ _ _).out) | (go_at_call 135; exact quiet_nn (HQA _ (bD _ _ _)).out) | (go_at_call 135; exact quiet_nn (HQC _ (bD _ _ _)).out)); go_wp2_with (first | (go_at_call 63; refine (HF _ _ _ _).out.mono ?_; rintro en w1 ⟨rfl, rfl⟩) | (go_at_call 135; refine (HQA _ (bD _ _ _)).out.mono ?_; rintro en w1 ⟨rfl, rfl⟩)))
   all_goals
     go_ret
     refine ⟨?_, ?_⟩
     · rw [← HNV.out]
       congr 2
       simp [numV, qV, *]
       try (rw [Bool.eq_iff_iff]; simp; done)
     · first | exact bA _ _ | exact bD _ _ _
set_option maxRecDepth 100000 in
theorem numbers_k20 (w : World) (g : Nat) (q : PlV) (P : Pl) (ra : Option Addr) (rl rc i : Nat) (x : Ac) (h : Ck w g q P ra rl rc i) (hx : x.k = 20) :
   Calls Try.prog 102 #[.pointer (some ⟨g, 0, none⟩), x.val] w fun en w' => en = .returned (.bool (numV P x)) ∧ Below w.heap.size w w' := by
 obtain ⟨k, a, b, c, d, n⟩ := x
 simp only at hx
 subst hx
 obtain ⟨hk, e1, e2, e3, hs, l1, l2, l3⟩ := h
 obtain ⟨ga, va, ta, oa, ma, gl, gc, vl, vc, tl, tc, ol, oc, ml, mc⟩ := q
 simp only at e1 e2 e3 hs
 subst e1 e2 e3
 have HQ0 := fun (W : World) (y : Int) (hb : Below w.heap.size w W) => hide ((queue_i W g _ ra rl rc i y (hk.below hb hk.lt) l1).mono (fun en w' hh => (⟨hh.1, hh.2.symm⟩ : en = .returned (.bool (fromV y 0 ((P.gh.length : Int) - 1))) ∧ w' = W)))
 have HF := fun (W : World) (y lo hi : Int) => hide ((from_i W y lo hi).mono (fun en w' hh => (⟨hh.1, hh.2.symm⟩ : en = .returned (.bool (fromV y lo hi)) ∧ w' = W)))
 obtain ⟨nv, hnv⟩ : ∃ nv, numV P ⟨20, a, b, c, d, n⟩ = nv := ⟨_, rfl⟩
 rw [hnv]
 have HNV := hide hnv
 clear hnv
 have HQA := fun (W : World) (hb : Below w.heap.size w W) => HQ0 W a hb
 have HQC := fun (W : World) (hb : Below w.heap.size w W) => HQ0 W c hb
 clear HQ0
 unfold maxLen at l1 l2 l3
 simp only [Ac.val]
 have hlt := hk.lt
 obtain ⟨ce0, ce1, ce2⟩ := ck_cells hk (.cells #[.int .i64 20, .int .i64 a, .int .i64 b, .int .i64 c, .int .i64 d, .int .i64 n] 49)
 have u1 := IntWalk.i64_in ((P.gh.length : Int) - 1) (by omega)
 have u2 := IntWalk.i64_in ((P.vs.length : Int) - 1) (by omega)
 have u3 := IntWalk.i64_in ((P.ts.length : Int) - 1) (by omega)
 go_enter Try.func102, Try.ntmps102
 go_wp2_with fail
 by_cases hc : c = 0
 case' pos => subst hc
 case' neg =>
   have hc1 : (c == 0) = false := by simp [hc]
   have hc2 : decide (c = 0) = false := by simp [hc]
 all_goals
   go_quiet (fail)
   go_wp2_with (first | (go_at_call 63; refine (HF _ _ _ _).out.mono ?_; rintro en w1 ⟨rfl, rfl⟩) | (go_at_call 135; refine (HQA _ (bD _ _ _)).out.mono ?_; rintro en w1 ⟨rfl, rfl⟩))
   all_goals try (go_quiet (first | (go_at_call 63; exact quiet_nn (HF _ _ _ _).out) | (go_at_call 135; exact quiet_nn (HQA _ (bD _ _ _)).out) | (go_at_call 135; exact quiet_nn (HQC _ (bD _ _ _)).out)); go_wp2_with (first | (go_at_call 63; refine (HF _ _ _ _).out.mono ?_; rintro en w1 ⟨rfl, rfl⟩) | (go_at_call 135; refine (HQA _ (bD _ _ _)).out.mono ?_; rintro en w1 ⟨rfl, rfl⟩)))
   all_goals
     go_ret
     refine ⟨?_, ?_⟩
     · rw [← HNV.out]
       congr 2
       simp [numV, qV, *]
       try (rw [Bool.eq_iff_iff]; simp; done)
     · first | exact bA _ _ | exact bD _ _ _
set_option maxRecDepth 100000 in
theorem numbers_k22 (w : World) (g : Nat) (q : PlV) (P : Pl) (ra : Option Addr) (rl rc i : Nat) (x : Ac) (h : Ck w g q P ra rl rc i) (hx : x.k = 22) :
   Calls Try.prog 102 #[.pointer (some ⟨g, 0, none⟩), x.val] w fun en w' => en = .returned (.bool (numV P x)) ∧ Below w.heap.size w w' := by
 obtain ⟨k, a, b, c, d, n⟩ := x
 simp only at hx
 subst hx
 obtain ⟨hk, e1, e2, e3, hs, l1, l2, l3⟩ := h
 obtain ⟨ga, va, ta, oa, ma, gl, gc, vl, vc, tl, tc, ol, oc, ml, mc⟩ := q
 simp only at e1 e2 e3 hs
 subst e1 e2 e3
 have HQ0 := fun (W : World) (y : Int) (hb : Below w.heap.size w W) => hide ((queue_i W g _ ra rl rc i y (hk.below hb hk.lt) l1).mono (fun en w' hh => (⟨hh.1, hh.2.symm⟩ : en = .returned (.bool (fromV y 0 ((P.gh.length : Int) - 1))) ∧ w' = W)))
 have HF := fun (W : World) (y lo hi : Int) => hide ((from_i W y lo hi).mono (fun en w' hh => (⟨hh.1, hh.2.symm⟩ : en = .returned (.bool (fromV y lo hi)) ∧ w' = W)))
 obtain ⟨nv, hnv⟩ : ∃ nv, numV P ⟨22, a, b, c, d, n⟩ = nv := ⟨_, rfl⟩
 rw [hnv]
 have HNV := hide hnv
 clear hnv
 have HQA := fun (W : World) (hb : Below w.heap.size w W) => HQ0 W a hb
 have HQC := fun (W : World) (hb : Below w.heap.size w W) => HQ0 W c hb
 clear HQ0
 unfold maxLen at l1 l2 l3
 simp only [Ac.val]
 have hlt := hk.lt
 obtain ⟨ce0, ce1, ce2⟩ := ck_cells hk (.cells #[.int .i64 22, .int .i64 a, .int .i64 b, .int .i64 c, .int .i64 d, .int .i64 n] 49)
 have u1 := IntWalk.i64_in ((P.gh.length : Int) - 1) (by omega)
 have u2 := IntWalk.i64_in ((P.vs.length : Int) - 1) (by omega)
 have u3 := IntWalk.i64_in ((P.ts.length : Int) - 1) (by omega)
 go_enter Try.func102, Try.ntmps102
 go_wp2_with fail
 by_cases hc : c = 0
 case' pos => subst hc
 case' neg =>
   have hc1 : (c == 0) = false := by simp [hc]
   have hc2 : decide (c = 0) = false := by simp [hc]
 all_goals
   go_quiet (fail)
   go_wp2_with (first | (go_at_call 63; refine (HF _ _ _ _).out.mono ?_; rintro en w1 ⟨rfl, rfl⟩) | (go_at_call 135; refine (HQA _ (bD _ _ _)).out.mono ?_; rintro en w1 ⟨rfl, rfl⟩))
   all_goals try (go_quiet (first | (go_at_call 63; exact quiet_nn (HF _ _ _ _).out) | (go_at_call 135; exact quiet_nn (HQA _ (bD _ _ _)).out) | (go_at_call 135; exact quiet_nn (HQC _ (bD _ _ _)).out)); go_wp2_with (first | (go_at_call 63; refine (HF _ _ _ _).out.mono ?_; rintro en w1 ⟨rfl, rfl⟩) | (go_at_call 135; refine (HQA _ (bD _ _ _)).out.mono ?_; rintro en w1 ⟨rfl, rfl⟩)))
   all_goals
     go_ret
     refine ⟨?_, ?_⟩
     · rw [← HNV.out]
       congr 2
       simp [numV, qV, *]
       try (rw [Bool.eq_iff_iff]; simp; done)
     · first | exact bA _ _ | exact bD _ _ _
set_option maxRecDepth 100000 in
theorem numbers_k24 (w : World) (g : Nat) (q : PlV) (P : Pl) (ra : Option Addr) (rl rc i : Nat) (x : Ac) (h : Ck w g q P ra rl rc i) (hx : x.k = 24) :
   Calls Try.prog 102 #[.pointer (some ⟨g, 0, none⟩), x.val] w fun en w' => en = .returned (.bool (numV P x)) ∧ Below w.heap.size w w' := by
 obtain ⟨k, a, b, c, d, n⟩ := x
 simp only at hx
 subst hx
 obtain ⟨hk, e1, e2, e3, hs, l1, l2, l3⟩ := h
 obtain ⟨ga, va, ta, oa, ma, gl, gc, vl, vc, tl, tc, ol, oc, ml, mc⟩ := q
 simp only at e1 e2 e3 hs
 subst e1 e2 e3
 have HQ0 := fun (W : World) (y : Int) (hb : Below w.heap.size w W) => hide ((queue_i W g _ ra rl rc i y (hk.below hb hk.lt) l1).mono (fun en w' hh => (⟨hh.1, hh.2.symm⟩ : en = .returned (.bool (fromV y 0 ((P.gh.length : Int) - 1))) ∧ w' = W)))
 have HF := fun (W : World) (y lo hi : Int) => hide ((from_i W y lo hi).mono (fun en w' hh => (⟨hh.1, hh.2.symm⟩ : en = .returned (.bool (fromV y lo hi)) ∧ w' = W)))
 obtain ⟨nv, hnv⟩ : ∃ nv, numV P ⟨24, a, b, c, d, n⟩ = nv := ⟨_, rfl⟩
 rw [hnv]
 have HNV := hide hnv
 clear hnv
 have HQA := fun (W : World) (hb : Below w.heap.size w W) => HQ0 W a hb
 have HQC := fun (W : World) (hb : Below w.heap.size w W) => HQ0 W c hb
 clear HQ0
 unfold maxLen at l1 l2 l3
 simp only [Ac.val]
 have hlt := hk.lt
 obtain ⟨ce0, ce1, ce2⟩ := ck_cells hk (.cells #[.int .i64 24, .int .i64 a, .int .i64 b, .int .i64 c, .int .i64 d, .int .i64 n] 49)
 have u1 := IntWalk.i64_in ((P.gh.length : Int) - 1) (by omega)
 have u2 := IntWalk.i64_in ((P.vs.length : Int) - 1) (by omega)
 have u3 := IntWalk.i64_in ((P.ts.length : Int) - 1) (by omega)
 go_enter Try.func102, Try.ntmps102
 go_wp2_with fail
 by_cases hc : c = 0
 case' pos => subst hc
 case' neg =>
   have hc1 : (c == 0) = false := by simp [hc]
   have hc2 : decide (c = 0) = false := by simp [hc]
 all_goals
   go_quiet (fail)
   go_wp2_with (first | (go_at_call 63; refine (HF _ _ _ _).out.mono ?_; rintro en w1 ⟨rfl, rfl⟩) | (go_at_call 135; refine (HQA _ (bD _ _ _)).out.mono ?_; rintro en w1 ⟨rfl, rfl⟩))
   all_goals try (go_quiet (first | (go_at_call 63; exact quiet_nn (HF _ _ _ _).out) | (go_at_call 135; exact quiet_nn (HQA _ (bD _ _ _)).out) | (go_at_call 135; exact quiet_nn (HQC _ (bD _ _ _)).out)); go_wp2_with (first | (go_at_call 63; refine (HF _ _ _ _).out.mono ?_; rintro en w1 ⟨rfl, rfl⟩) | (go_at_call 135; refine (HQA _ (bD _ _ _)).out.mono ?_; rintro en w1 ⟨rfl, rfl⟩)))
   all_goals
     go_ret
     refine ⟨?_, ?_⟩
     · rw [← HNV.out]
       congr 2
       simp [numV, qV, *]
       try (rw [Bool.eq_iff_iff]; simp; done)
     · first | exact bA _ _ | exact bD _ _ _
set_option maxRecDepth 100000 in
theorem numbers_k6 (w : World) (g : Nat) (q : PlV) (P : Pl) (ra : Option Addr) (rl rc i : Nat) (x : Ac) (h : Ck w g q P ra rl rc i) (hx : x.k = 6) :
   Calls Try.prog 102 #[.pointer (some ⟨g, 0, none⟩), x.val] w fun en w' => en = .returned (.bool (numV P x)) ∧ Below w.heap.size w w' := by
 obtain ⟨k, a, b, c, d, n⟩ := x
 simp only at hx
 subst hx
 obtain ⟨hk, e1, e2, e3, hs, l1, l2, l3⟩ := h
 obtain ⟨ga, va, ta, oa, ma, gl, gc, vl, vc, tl, tc, ol, oc, ml, mc⟩ := q
 simp only at e1 e2 e3 hs
 subst e1 e2 e3
 have HQ0 := fun (W : World) (y : Int) (hb : Below w.heap.size w W) => hide ((queue_i W g _ ra rl rc i y (hk.below hb hk.lt) l1).mono (fun en w' hh => (⟨hh.1, hh.2.symm⟩ : en = .returned (.bool (fromV y 0 ((P.gh.length : Int) - 1))) ∧ w' = W)))
 have HF := fun (W : World) (y lo hi : Int) => hide ((from_i W y lo hi).mono (fun en w' hh => (⟨hh.1, hh.2.symm⟩ : en = .returned (.bool (fromV y lo hi)) ∧ w' = W)))
 obtain ⟨nv, hnv⟩ : ∃ nv, numV P ⟨6, a, b, c, d, n⟩ = nv := ⟨_, rfl⟩
 rw [hnv]
 have HNV := hide hnv
 clear hnv
 have HQA := fun (W : World) (hb : Below w.heap.size w W) => HQ0 W a hb
 have HQC := fun (W : World) (hb : Below w.heap.size w W) => HQ0 W c hb
 clear HQ0
 unfold maxLen at l1 l2 l3
 simp only [Ac.val]
 have hlt := hk.lt
 obtain ⟨ce0, ce1, ce2⟩ := ck_cells hk (.cells #[.int .i64 6, .int .i64 a, .int .i64 b, .int .i64 c, .int .i64 d, .int .i64 n] 49)
 have u1 := IntWalk.i64_in ((P.gh.length : Int) - 1) (by omega)
 have u2 := IntWalk.i64_in ((P.vs.length : Int) - 1) (by omega)
 have u3 := IntWalk.i64_in ((P.ts.length : Int) - 1) (by omega)
 go_enter Try.func102, Try.ntmps102
 go_wp2_with fail
 by_cases hc : c = 0
 case' pos => subst hc
 case' neg =>
   have hc1 : (c == 0) = false := by simp [hc]
   have hc2 : decide (c = 0) = false := by simp [hc]
 all_goals
   go_quiet (fail)
   go_wp2_with (first | (go_at_call 63; refine (HF _ _ _ _).out.mono ?_; rintro en w1 ⟨rfl, rfl⟩) | (go_at_call 135; refine (HQA _ (bD _ _ _)).out.mono ?_; rintro en w1 ⟨rfl, rfl⟩))
   all_goals try (go_quiet (first | (go_at_call 63; exact quiet_nn (HF _ _ _ _).out) | (go_at_call 135; exact quiet_nn (HQA _ (bD _ _ _)).out) | (go_at_call 135; exact quiet_nn (HQC _ (bD _ _ _)).out)); go_wp2_with (first | (go_at_call 63; refine (HF _ _ _ _).out.mono ?_; rintro en w1 ⟨rfl, rfl⟩) | (go_at_call 135; refine (HQA _ (bD _ _ _)).out.mono ?_; rintro en w1 ⟨rfl, rfl⟩)))
   all_goals try (go_quiet (first | (go_at_call 63; exact quiet_nn (HF _ _ _ _).out) | (go_at_call 135; exact quiet_nn (HQA _ (bD _ _ _)).out) | (go_at_call 135; exact quiet_nn (HQC _ (bD _ _ _)).out)); go_wp2_with (first | (go_at_call 63; refine (HF _ _ _ _).out.mono ?_; rintro en w1 ⟨rfl, rfl⟩) | (go_at_call 135; refine (HQA _ (bD _ _ _)).out.mono ?_; rintro en w1 ⟨rfl, rfl⟩)))
   all_goals
     go_ret
     refine ⟨?_, ?_⟩
     · rw [← HNV.out]
       congr 2
       simp [numV, qV, *]
       try (rw [Bool.eq_iff_iff]; simp; done)
     · first | exact bA _ _ | exact bD _ _ _
set_option maxRecDepth 100000 in
theorem numbers_k9 (w : World) (g : Nat) (q : PlV) (P : Pl) (ra : Option Addr) (rl rc i : Nat) (x : Ac) (h : Ck w g q P ra rl rc i) (hx : x.k = 9) :
   Calls Try.prog 102 #[.pointer (some ⟨g, 0, none⟩), x.val] w fun en w' => en = .returned (.bool (numV P x)) ∧ Below w.heap.size w w' := by
 obtain ⟨k, a, b, c, d, n⟩ := x
 simp only at hx
 subst hx
 obtain ⟨hk, e1, e2, e3, hs, l1, l2, l3⟩ := h
 obtain ⟨ga, va, ta, oa, ma, gl, gc, vl, vc, tl, tc, ol, oc, ml, mc⟩ := q
 simp only at e1 e2 e3 hs
 subst e1 e2 e3
 have HQ0 := fun (W : World) (y : Int) (hb : Below w.heap.size w W) => hide ((queue_i W g _ ra rl rc i y (hk.below hb hk.lt) l1).mono (fun en w' hh => (⟨hh.1, hh.2.symm⟩ : en = .returned (.bool (fromV y 0 ((P.gh.length : Int) - 1))) ∧ w' = W)))
 have HF := fun (W : World) (y lo hi : Int) => hide ((from_i W y lo hi).mono (fun en w' hh => (⟨hh.1, hh.2.symm⟩ : en = .returned (.bool (fromV y lo hi)) ∧ w' = W)))
 obtain ⟨nv, hnv⟩ : ∃ nv, numV P ⟨9, a, b, c, d, n⟩ = nv := ⟨_, rfl⟩
 rw [hnv]
 have HNV := hide hnv
 clear hnv
 have HQA := fun (W : World) (hb : Below w.heap.size w W) => HQ0 W a hb
 have HQC := fun (W : World) (hb : Below w.heap.size w W) => HQ0 W c hb
 clear HQ0
 unfold maxLen at l1 l2 l3
 simp only [Ac.val]
 have hlt := hk.lt
 obtain ⟨ce0, ce1, ce2⟩ := ck_cells hk (.cells #[.int .i64 9, .int .i64 a, .int .i64 b, .int .i64 c, .int .i64 d, .int .i64 n] 49)
 have u1 := IntWalk.i64_in ((P.gh.length : Int) - 1) (by omega)
 have u2 := IntWalk.i64_in ((P.vs.length : Int) - 1) (by omega)
 have u3 := IntWalk.i64_in ((P.ts.length : Int) - 1) (by omega)
 go_enter Try.func102, Try.ntmps102
 go_wp2_with fail
 by_cases hc : c = 0
 case' pos => subst hc
 case' neg =>
   have hc1 : (c == 0) = false := by simp [hc]
   have hc2 : decide (c = 0) = false := by simp [hc]
 all_goals
   go_quiet (fail)
   go_wp2_with (first | (go_at_call 63; refine (HF _ _ _ _).out.mono ?_; rintro en w1 ⟨rfl, rfl⟩) | (go_at_call 135; refine (HQA _ (bD _ _ _)).out.mono ?_; rintro en w1 ⟨rfl, rfl⟩))
   all_goals try (go_quiet (first | (go_at_call 63; exact quiet_nn (HF _ _ _ _).out) | (go_at_call 135; exact quiet_nn (HQA _ (bD _ _ _)).out) | (go_at_call 135; exact quiet_nn (HQC _ (bD _ _ _)).out)); go_wp2_with (first | (go_at_call 63; refine (HF _ _ _ _).out.mono ?_; rintro en w1 ⟨rfl, rfl⟩) | (go_at_call 135; refine (HQA _ (bD _ _ _)).out.mono ?_; rintro en w1 ⟨rfl, rfl⟩)))
   all_goals try (go_quiet (first | (go_at_call 63; exact quiet_nn (HF _ _ _ _).out) | (go_at_call 135; exact quiet_nn (HQA _ (bD _ _ _)).out) | (go_at_call 135; exact quiet_nn (HQC _ (bD _ _ _)).out)); go_wp2_with (first | (go_at_call 63; refine (HF _ _ _ _).out.mono ?_; rintro en w1 ⟨rfl, rfl⟩) | (go_at_call 135; refine (HQA _ (bD _ _ _)).out.mono ?_; rintro en w1 ⟨rfl, rfl⟩)))
   all_goals
     go_ret
     refine ⟨?_, ?_⟩
     · rw [← HNV.out]
       congr 2
       simp [numV, qV, *]
       try (rw [Bool.eq_iff_iff]; simp; done)
     · first | exact bA _ _ | exact bD _ _ _
set_option maxRecDepth 100000 in
theorem numbers_k10 (w : World) (g : Nat) (q : PlV) (P : Pl) (ra : Option Addr) (rl rc i : Nat) (x : Ac) (h : Ck w g q P ra rl rc i) (hx : x.k = 10) :
   Calls Try.prog 102 #[.pointer (some ⟨g, 0, none⟩), x.val] w fun en w' => en = .returned (.bool (numV P x)) ∧ Below w.heap.size w w' := by
 obtain ⟨k, a, b, c, d, n⟩ := x
 simp only at hx
 subst hx
 obtain ⟨hk, e1, e2, e3, hs, l1, l2, l3⟩ := h
 obtain ⟨ga, va, ta, oa, ma, gl, gc, vl, vc, tl, tc, ol, oc, ml, mc⟩ := q
 simp only at e1 e2 e3 hs
 subst e1 e2 e3
 have HQ0 := fun (W : World) (y : Int) (hb : Below w.heap.size w W) => hide ((queue_i W g _ ra rl rc i y (hk.below hb hk.lt) l1).mono (fun en w' hh => (⟨hh.1, hh.2.symm⟩ : en = .returned (.bool (fromV y 0 ((P.gh.length : Int) - 1))) ∧ w' = W)))
 have HF := fun (W : World) (y lo hi : Int) => hide ((from_i W y lo hi).mono (fun en w' hh => (⟨hh.1, hh.2.symm⟩ : en = .returned (.bool (fromV y lo hi)) ∧ w' = W)))
 obtain ⟨nv, hnv⟩ : ∃ nv, numV P ⟨10, a, b, c, d, n⟩ = nv := ⟨_, rfl⟩
 rw [hnv]
 have HNV := hide hnv
 clear hnv
 have HQA := fun (W : World) (hb : Below w.heap.size w W) => HQ0 W a hb
 have HQC := fun (W : World) (hb : Below w.heap.size w W) => HQ0 W c hb
 clear HQ0
 unfold maxLen at l1 l2 l3
 simp only [Ac.val]
 have hlt := hk.lt
 obtain ⟨ce0, ce1, ce2⟩ := ck_cells hk (.cells #[.int .i64 10, .int .i64 a, .int .i64 b, .int .i64 c, .int .i64 d, .int .i64 n] 49)
 have u1 := IntWalk.i64_in ((P.gh.length : Int) - 1) (by omega)
 have u2 := IntWalk.i64_in ((P.vs.length : Int) - 1) (by omega)
 have u3 := IntWalk.i64_in ((P.ts.length : Int) - 1) (by omega)
 go_enter Try.func102, Try.ntmps102
 go_wp2_with fail
 by_cases hc : c = 0
 case' pos => subst hc
 case' neg =>
   have hc1 : (c == 0) = false := by simp [hc]
   have hc2 : decide (c = 0) = false := by simp [hc]
 all_goals
   go_quiet (fail)
   go_wp2_with (first | (go_at_call 63; refine (HF _ _ _ _).out.mono ?_; rintro en w1 ⟨rfl, rfl⟩) | (go_at_call 135; refine (HQA _ (bD _ _ _)).out.mono ?_; rintro en w1 ⟨rfl, rfl⟩))
   all_goals try (go_quiet (first | (go_at_call 63; exact quiet_nn (HF _ _ _ _).out) | (go_at_call 135; exact quiet_nn (HQA _ (bD _ _ _)).out) | (go_at_call 135; exact quiet_nn (HQC _ (bD _ _ _)).out)); go_wp2_with (first | (go_at_call 63; refine (HF _ _ _ _).out.mono ?_; rintro en w1 ⟨rfl, rfl⟩) | (go_at_call 135; refine (HQA _ (bD _ _ _)).out.mono ?_; rintro en w1 ⟨rfl, rfl⟩)))
   all_goals try (go_quiet (first | (go_at_call 63; exact quiet_nn (HF _ _ _ _).out) | (go_at_call 135; exact quiet_nn (HQA _ (bD _ _ _)).out) | (go_at_call 135; exact quiet_nn (HQC _ (bD _ _ _)).out)); go_wp2_with (first | (go_at_call 63; refine (HF _ _ _ _).out.mono ?_; rintro en w1 ⟨rfl, rfl⟩) | (go_at_call 135; refine (HQA _ (bD _ _ _)).out.mono ?_; rintro en w1 ⟨rfl, rfl⟩)))
   all_goals
     go_ret
     refine ⟨?_, ?_⟩
     · rw [← HNV.out]
       congr 2
       simp [numV, qV, *]
       try (rw [Bool.eq_iff_iff]; simp; done)
     · first | exact bA _ _ | exact bD _ _ _
set_option maxRecDepth 100000 in
theorem numbers_k18 (w : World) (g : Nat) (q : PlV) (P : Pl) (ra : Option Addr) (rl rc i : Nat) (x : Ac) (h : Ck w g q P ra rl rc i) (hx : x.k = 18) :
   Calls Try.prog 102 #[.pointer (some ⟨g, 0, none⟩), x.val] w fun en w' => en = .returned (.bool (numV P x)) ∧ Below w.heap.size w w' := by
 obtain ⟨k, a, b, c, d, n⟩ := x
 simp only at hx
 subst hx
 obtain ⟨hk, e1, e2, e3, hs, l1, l2, l3⟩ := h
 obtain ⟨ga, va, ta, oa, ma, gl, gc, vl, vc, tl, tc, ol, oc, ml, mc⟩ := q
 simp only at e1 e2 e3 hs
 subst e1 e2 e3
 have HQ0 := fun (W : World) (y : Int) (hb : Below w.heap.size w W) => hide ((queue_i W g _ ra rl rc i y (hk.below hb hk.lt) l1).mono (fun en w' hh => (⟨hh.1, hh.2.symm⟩ : en = .returned (.bool (fromV y 0 ((P.gh.length : Int) - 1))) ∧ w' = W)))
 have HF := fun (W : World) (y lo hi : Int) => hide ((from_i W y lo hi).mono (fun en w' hh => (⟨hh.1, hh.2.symm⟩ : en = .returned (.bool (fromV y lo hi)) ∧ w' = W)))
 obtain ⟨nv, hnv⟩ : ∃ nv, numV P ⟨18, a, b, c, d, n⟩ = nv := ⟨_, rfl⟩
 rw [hnv]
 have HNV := hide hnv
 clear hnv
 have HQA := fun (W : World) (hb : Below w.heap.size w W) => HQ0 W a hb
 have HQC := fun (W : World) (hb : Below w.heap.size w W) => HQ0 W c hb
 clear HQ0
 unfold maxLen at l1 l2 l3
 simp only [Ac.val]
 have hlt := hk.lt
 obtain ⟨ce0, ce1, ce2⟩ := ck_cells hk (.cells #[.int .i64 18, .int .i64 a, .int .i64 b, .int .i64 c, .int .i64 d, .int .i64 n] 49)
 have u1 := IntWalk.i64_in ((P.gh.length : Int) - 1) (by omega)
 have u2 := IntWalk.i64_in ((P.vs.length : Int) - 1) (by omega)
 have u3 := IntWalk.i64_in ((P.ts.length : Int) - 1) (by omega)
 go_enter Try.func102, Try.ntmps102
 go_wp2_with fail
 by_cases hc : c = 0
 case' pos => subst hc
 case' neg =>
   have hc1 : (c == 0) = false := by simp [hc]
   have hc2 : decide (c = 0) = false := by simp [hc]
 all_goals
   go_quiet (fail)
   go_wp2_with (first | (go_at_call 63; refine (HF _ _ _ _).out.mono ?_; rintro en w1 ⟨rfl, rfl⟩) | (go_at_call 135; refine (HQA _ (bD _ _ _)).out.mono ?_; rintro en w1 ⟨rfl, rfl⟩))
   all_goals try (go_quiet (first | (go_at_call 63; exact quiet_nn (HF _ _ _ _).out) | (go_at_call 135; exact quiet_nn (HQA _ (bD _ _ _)).out) | (go_at_call 135; exact quiet_nn (HQC _ (bD _ _ _)).out)); go_wp2_with (first | (go_at_call 63; refine (HF _ _ _ _).out.mono ?_; rintro en w1 ⟨rfl, rfl⟩) | (go_at_call 135; refine (HQA _ (bD _ _ _)).out.mono ?_; rintro en w1 ⟨rfl, rfl⟩)))
   all_goals try (go_quiet (first | (go_at_call 63; exact quiet_nn (HF _ _ _ _).out) | (go_at_call 135; exact quiet_nn (HQA _ (bD _ _ _)).out) | (go_at_call 135; exact quiet_nn (HQC _ (bD _ _ _)).out)); go_wp2_with (first | (go_at_call 63; refine (HF _ _ _ _).out.mono ?_; rintro en w1 ⟨rfl, rfl⟩) | (go_at_call 135; refine (HQA _ (bD _ _ _)).out.mono ?_; rintro en w1 ⟨rfl, rfl⟩)))
   all_goals
     go_ret
     refine ⟨?_, ?_⟩
     · rw [← HNV.out]
       congr 2
       simp [numV, qV, *]
       try (rw [Bool.eq_iff_iff]; simp; done)
     · first | exact bA _ _ | exact bD _ _ _
end Go.Proofs.Ytdpokdcendgfeaa
namespace Go.Proofs.Ytdpokdcendgfeaa
open Go.RowKit
def Vr.cells (x : Vr) : List Value := [.int .i64 x.init, .int .i64 x.lo, .int .i64 x.hi]
def vrs (l : List Vr) : List Value := (l.map Vr.cells).flatten
theorem vrs_at : ∀ (l : List Vr) (i j : Nat) (x : Vr), l[i]? = some x → j < 3 → (vrs l)[i * 3 + j]? = x.cells[j]?
 | [], i, j, x, h, _ => by simp at h
 | y :: l, 0, j, x, h, hj => by
   simp at h
   subst h
   simp only [vrs, List.map_cons, List.flatten_cons, Nat.zero_mul, Nat.zero_add]
   rw [List.getElem?_append_left (by simp [Vr.cells]; omega)]
 | y :: l, i + 1, j, x, h, hj => by
   have ih := vrs_at l i j x (by simpa using h) hj
   simp only [vrs, List.map_cons, List.flatten_cons] at ih ⊢
   rw [List.getElem?_append_right (by simp [Vr.cells]; omega)]
   rw [← ih]
   congr 1
   simp [Vr.cells]
   omega
def VrAt (w : World) (p : Addr) (x : Vr) : Prop := w.cell? p = some (.int .i64 x.init) ∧ w.cell? ⟨p.block, p.off + 1, none⟩ = some (.int .i64 x.lo) ∧ w.cell? ⟨p.block, p.off + 2, none⟩ = some (.int .i64 x.hi)
theorem vrs_row {w : World} {oa : Option Addr} {l : List Vr} (h : Src w oa l.length (vrs l)) {i : Nat} {x : Vr} (hi : l[i]? = some x) : ∃ ad, oa = some ad ∧ ad.block < w.heap.size ∧ VrAt w (ad.add (i * 3)) x := by
 have hl := (List.getElem?_eq_some_iff.1 hi).1
 obtain ⟨ad, e, hb, hx⟩ := h (by omega)
 have hz : ∀ j v, j < 3 → x.cells[j]? = some v → w.cell? (ad.add (i * 3 + j)) = some v := fun j v hj hv => hx _ _ ((vrs_at l i j x hi hj).trans hv)
 have z0 := hz 0 _ (by omega) rfl
 have z1 := hz 1 _ (by omega) rfl
 have z2 := hz 2 _ (by omega) rfl
 rw [add_fld ad (i * 3) 0] at z1
 rw [add_fld ad (i * 3) 1] at z2
 exact ⟨ad, e, hb, z0, z1, z2⟩
theorem src_get {w : World} {oa : Option Addr} {n : Nat} {cs : List Value} (h : Src w oa n cs) {i : Nat} {v : Value} (hn : 0 < n) (hi : cs[i]? = some v) : ∃ ad, oa = some ad ∧ ad.block < w.heap.size ∧ w.cell? (ad.add i) = some v := by
 obtain ⟨ad, e, hb, hx⟩ := h hn
 exact ⟨ad, e, hb, hx i v hi⟩
/-- slices of rows, as values -/
def slv : List (Option Addr × Nat) → List (List Ac) → List Value
 | r :: rs, l :: ls => .slice r.1 l.length r.2 :: slv rs ls
 | _, _ => []
theorem slv_length : ∀ (rs : List (Option Addr × Nat)) (ls : List (List Ac)), rs.length = ls.length → (slv rs ls).length = ls.length
 | [], [], _ => rfl
 | r :: rs, l :: ls, h => by simp only [slv, List.length_cons, slv_length rs ls (by simpa using h)]
 | [], l :: ls, h => by simp at h
 | r :: rs, [], h => by simp at h
theorem slv_get : ∀ (rs : List (Option Addr × Nat)) (ls : List (List Ac)) (i : Nat) (r : Option Addr × Nat) (l : List Ac), rs[i]? = some r → ls[i]? = some l → (slv rs ls)[i]? = some (.slice r.1 l.length r.2)
 | r :: rs, l :: ls, 0, r', l', h1, h2 => by
   simp at h1 h2
   subst h1 h2
   rfl
 | r :: rs, l :: ls, i + 1, r', l', h1, h2 => by
   simp only [slv, List.getElem?_cons_succ]
   exact slv_get rs ls i r' l' (by simpa using h1) (by simpa using h2)
 | [], ls, i, r, l, h1, h2 => by simp at h1
 | r :: rs, [], i, r', l', h1, h2 => by simp at h2
theorem slv_append : ∀ (rs : List (Option Addr × Nat)) (ls : List (List Ac)) (r : Option Addr × Nat) (l : List Ac), rs.length = ls.length → slv (rs ++ [r]) (ls ++ [l]) = slv rs ls ++ [.slice r.1 l.length r.2]
 | [], [], r, l, _ => rfl
 | r' :: rs, l' :: ls, r, l, h => by simp only [List.cons_append, slv, slv_append rs ls r l (by simpa using h)]
 | [], l' :: ls, r, l, h => by simp at h
 | r' :: rs, [], r, l, h => by simp at h
theorem slv_one : ∀ (rs : List (Option Addr × Nat)) (ls : List (List Ac)), ∀ u ∈ slv rs ls, u.oneCell' = true
 | r :: rs, l :: ls, u, h => by
   simp only [slv, List.mem_cons] at h
   rcases h with rfl | h
   · rfl
   · exact slv_one rs ls u h
 | [], ls, u, h => by simp [slv] at h
 | r :: rs, [], u, h => by simp [slv] at h
/-- events in memory -/
def EvMem (w : World) (rs : List (Option Addr × Nat)) (ls : List (List Ac)) : Prop := rs.length = ls.length ∧ ∀ (i : Nat) (oa : Option Addr) (c : Nat) (l : List Ac), rs[i]? = some (oa, c) → ls[i]? = some l → Src w oa l.length (acs l) ∧ l.length ≤ c ∧ c ≤ maxLen
theorem EvMem.below {w w' : World} {rs : List (Option Addr × Nat)} {ls : List (List Ac)} (h : EvMem w rs ls) (hb : Below w.heap.size w w') : EvMem w' rs ls := ⟨h.1, fun i oa c l h1 h2 => ⟨(h.2 i oa c l h1 h2).1.below hb, (h.2 i oa c l h1 h2).2⟩⟩
/-- a plan in memory -/
structure PlMem (w : World) (q : PlV) (P : Pl) (rs : List (Option Addr × Nat)) : Prop where
 gl : q.gl = P.gh.length
 vl : q.vl = P.vs.length
 tl : q.tl = P.ts.length
 ol : q.ol = P.on.length
 ml : q.ml = P.ms.length
 g : Src w q.ga P.gh.length (bools P.gh)
 v : Src w q.va P.vs.length (vrs P.vs)
 t : Src w q.ta P.ts.length (ints P.ts)
 o : Src w q.oa P.on.length (slv rs P.on)
 e : EvMem w (rs ++ [(q.ma, q.mc)]) (P.on ++ [P.ms])
 l : P.gh.length ≤ maxLen ∧ P.vs.length ≤ maxLen ∧ P.ts.length ≤ maxLen ∧ P.on.length ≤ maxLen
theorem PlMem.below {w w' : World} {q : PlV} {P : Pl} {rs : List (Option Addr × Nat)} (h : PlMem w q P rs) (hb : Below w.heap.size w w') : PlMem w' q P rs :=
 ⟨h.gl, h.vl, h.tl, h.ol, h.ml, h.g.below hb, h.v.below hb, h.t.below hb, h.o.below hb, h.e.below hb, h.l⟩
/-! checkV, by its parts -/
theorem all_take_succ {α : Type} {l : List α} {p : α → Bool} {i : Nat} {x : α} (hx : l[i]? = some x) (h : (l.take i).all p = true) (hp : p x = true) : (l.take (i + 1)).all p = true := by
 rw [List.take_add_one, hx]
 simp [h, hp]
theorem all_false {α : Type} {l : List α} {p : α → Bool} {i : Nat} {x : α} (hx : l[i]? = some x) (hp : p x = false) : l.all p = false := by
 rw [List.all_eq_false]
 exact ⟨x, List.mem_of_getElem? hx, by simp [hp]⟩
theorem vrOk_iff (v : Vr) : vrOk v = true ↔ (v.lo ≤ v.init ∧ v.init ≤ v.hi ∧ -1073741824 ≤ v.lo ∧ v.hi ≤ 1073741824) := by
 simp [vrOk, and_assoc]
section
variable {P : Pl}
theorem check_sizes (h : ¬ (P.gh.length ≤ 16 ∧ P.vs.length ≤ 16 ∧ P.ts.length ≤ 4 ∧ P.on.length = P.gh.length)) : checkV P = 71 := by
 unfold checkV
 rw [if_neg]
 intro h2
 simp only [Bool.and_eq_true, decide_eq_true_eq] at h2
 exact h ⟨h2.1.1.1.1.1.1.1, h2.1.1.1.1.1.1.2, h2.1.1.1.1.1.2, h2.1.1.1.1.2⟩
theorem check_vars (h : P.vs.all vrOk = false) : checkV P = 71 := by
 unfold checkV
 rw [if_neg]
 rw [h]
 simp
theorem check_tags (h : P.ts.all (fun t => fromV t 1 255) = false) : checkV P = 71 := by
 unfold checkV
 rw [if_neg]
 rw [h]
 simp
theorem check_rows (h : ¬ rowsV (P.on ++ [P.ms]) ≤ 131072) : checkV P = 71 := by
 unfold checkV
 rw [if_neg]
 intro h2
 simp only [Bool.and_eq_true, decide_eq_true_eq] at h2
 exact h h2.1.2
theorem check_event (h : (P.on ++ [P.ms]).all (eventV P) = false) : checkV P = 71 := by
 unfold checkV
 rw [if_neg]
 rw [h]
 simp
theorem check_ok (h1 : P.gh.length ≤ 16) (h2 : P.vs.length ≤ 16) (h3 : P.ts.length ≤ 4) (h4 : P.on.length = P.gh.length) (h5 : P.vs.all vrOk = true) (h6 : P.ts.all (fun t => fromV t 1 255) = true) (h7 : rowsV (P.on ++ [P.ms]) ≤ 131072) (h8 : (P.on ++ [P.ms]).all (eventV P) = true) : checkV P = 0 := by
 unfold checkV
 rw [if_pos]
 simp only [h1, h2, h3, h4, h5, h6, h7, h8, decide_true, Bool.and_self]
end
theorem rowsV_succ {ls : List (List Ac)} {j : Nat} {l : List Ac} (h : ls[j]? = some l) : rowsV (ls.take (j + 1)) = rowsV (ls.take j) + l.length := by
 unfold rowsV
 rw [List.take_add_one, h]
 simp
theorem rowsV_le (ls : List (List Ac)) (j : Nat) : rowsV (ls.take j) ≤ rowsV ls := by
 unfold rowsV
 conv => rhs; rw [← List.take_append_drop j ls]
 rw [List.map_append, List.sum_append]
 omega
theorem rowsV_one {ls : List (List Ac)} {j : Nat} {l : List Ac} (h : ls[j]? = some l) : l.length ≤ rowsV ls := by
 have h1 := rowsV_le ls (j + 1)
 have h2 := rowsV_succ h
 omega
end Go.Proofs.Ytdpokdcendgfeaa
namespace Go.Proofs.Ytdpokdcendgfeaa
open Go.RowKit
/-- the row behind a row and all of its own: left rows are still wanted -/
def endS (l : List Ac) (i : Nat) (left : Int) : Option Nat :=
 if left ≤ 0 then some i else
 match hx : l[i]? with
 | none => none
 | some x => endS l (i + 1) (left + (x.n - 1))
termination_by l.length - i
decreasing_by
 have := (List.getElem?_eq_some_iff.1 hx).1
 omega
theorem endS_stop {l : List Ac} {i : Nat} {left : Int} (h : left ≤ 0) : endS l i left = some i := by
 unfold endS
 rw [if_pos h]
theorem endS_step {l : List Ac} {i : Nat} {left : Int} {x : Ac} (h : ¬ left ≤ 0) (hx : l[i]? = some x) : endS l i left = endS l (i + 1) (left + (x.n - 1)) := by
 conv => lhs; unfold endS
 rw [if_neg h]
 split
 · next h2 => rw [h2] at hx; cases hx
 · next y h2 =>
   rw [h2] at hx
   injection hx with hx
   subst hx
   rfl
theorem endS_none {l : List Ac} {i : Nat} {left : Int} (h : ¬ left ≤ 0) (hx : l[i]? = none) : endS l i left = none := by
 unfold endS
 rw [if_neg h]
 split
 · rfl
 · next y h2 => rw [h2] at hx; cases hx
/-- the kids' counts are small -/
def Small (l : List Ac) : Prop := l.length ≤ 262144 ∧ ∀ x ∈ l, 0 ≤ x.n ∧ x.n ≤ 262144
set_option maxRecDepth 100000 in
theorem end_i (w : World) (oa : Option Addr) (c : Nat) (l : List Ac) (i e : Nat) (h : Src w oa l.length (acs l)) (hs : Small l) (he : endS l i 1 = some e) (hi : i ≤ l.length) :
   Calls Try.prog 76 #[.slice oa l.length c, .int .i64 (i : Int)] w fun en w' => en = .returned (.int .i64 (e : Int)) ∧ ∃ m, w' = w.drewN m := by
 have HS := hide h
 have HSM := hide hs
 have HE := hide he
 have hln := hs.1
 clear h hs he
 go_enter Try.func76, Try.ntmps76
 go_wp2_with fail
 go_loopw [1, 5] (fun t1 t5 W => ∃ (j : Nat) (left : Int), t1 = .int .i64 (j : Int) ∧ t5 = .int .i64 left ∧ j ≤ l.length ∧ -1 ≤ left ∧ left ≤ 1 + (j : Int) * 262144 ∧ endS l j left = some e ∧ ∃ m, W = w.drewN m) (fun t1 _ _ => l.length + 1 - (intOf t1).toNat)
 case atStart => exact ⟨i, 1, rfl, rfl, hi, by omega, by omega, HE.out, 0, rfl⟩
 case round =>
   obtain ⟨j, left, rfl, rfl, hj, hl0, hl1, hes, m, rfl⟩ := hrel
   have HES := hide hes
   clear hes
   by_cases hpos : left ≤ 0
   · have hp : ¬ (0 : Int) < left := by omega
     have hje : j = e := by
       have := HES.out
       rw [endS_stop hpos] at this
       injection this
     subst hje
     go_wp2_with fail
     go_ret
     exact ⟨rfl, _, rfl⟩
   · have hp : (0 : Int) < left := by omega
     have hjl : j < l.length := by
       rcases Nat.lt_or_ge j l.length with h1 | h1
       · exact h1
       · have := HES.out
         rw [endS_none hpos (List.getElem?_eq_none h1)] at this
         cases this
     have hjI : (j : Int) < (l.length : Int) := by omega
     have hj0 : (0 : Int) ≤ (j : Int) := by omega
     obtain ⟨x, hx⟩ : ∃ x, l[j]? = some x := ⟨_, List.getElem?_eq_getElem hjl⟩
     obtain ⟨ad, rfl, _, _, _, _, _, _, q5⟩ := acs_row HS.out hx
     obtain ⟨hn0, hn1⟩ := HSM.out.2 x (List.mem_of_getElem? hx)
     have hst := endS_step hpos hx
     have HST := hide hst
     clear hst hx
     have hq1 := IntWalk.i64_in ((j : Int) + 1) (by omega)
     have hq2 := IntWalk.i64_in (x.n - 1) (by omega)
     have hq3 := IntWalk.i64_in (left + (x.n - 1)) (by omega)
     go_wp2_with fail
     all_goals try (go_quiet (fail); go_wp2_with fail)
     go_roundw
     case rel =>
       refine ⟨j + 1, left + (x.n - 1), by go_num, by first | rfl | (congr 1; omega), by omega, by omega, by omega, ?_, _, rfl⟩
       have := HES.out
       rw [HST.out] at this
       exact this
     case measure =>
       simp only [intOf]
       omega
end Go.Proofs.Ytdpokdcendgfeaa
namespace Go.Proofs.Ytdpokdcendgfeaa
open Go.RowKit
theorem step_append_own {P : Program} {ops : Array Oper} {o : Oper} {a : Act} {w : World} {K : Act → World → Prop} {Q : Exit → Act → World → Prop} {E : Prop}
   (hg : o.guard = none) (s x : Operand) (t : TypeId) (hop : o.op = Op.call { callee := Callee.builtin Builtin.append, args := #[s, x], argTypes := #[t, t] })
   (base : Nat) (e : TypeId) (i : TypeInfo) (z : Value) (size bytes : Nat) (h1 : P.underlying t = some (.slice e)) (h2 : P.info? e = some i) (h3 : i.zero = some z) (h4 : i.size = size) (h5 : i.bytes = bytes) (h6 : z.cells.size = size) (h7 : 0 < size)
   (v : Value) (n : Nat) (xs : List Value) (hs : a.eval s = v) (hown : w.ownsRow base e size v n xs)
   (ad : Addr) (m c : Nat) (news : List Value) (hx : a.eval x = .slice (some ad) m c) (hn : news.length = m * size) (hc : ∀ j u, news[j]? = some u → w.cell? (ad.add j) = some u) (h1c : ∀ u ∈ news, u.oneCell' = true)
   (b1 : n + m ≤ maxLen) (b2 : (n + m) * bytes ≤ 140737488355328) (hb : base ≤ w.heap.size)
   (hK : ∀ v' w', w'.ownsRow base e size v' (n + m) (xs ++ news) → w.grownBy w' v.ownBlock → K (a.put o.dst v') w') :
   if Region.wanted o (yielded ops a.tmps) = true then Oper.wp P o a w K Q else E := by
 have hw : Region.wanted o (yielded ops a.tmps) = true := by simp [Region.wanted, hg]
 rw [if_pos hw]
 obtain ⟨v', w', hrun, r1, r2, _⟩ := run_append_own (P := P) w base t o.type e i z size bytes h1 h2 h3 h4 h5 h6 h7 v n xs hown ad m c news hn hc h1c b1 b2 hb
 unfold Oper.wp
 simp [execOp, hop, resolve, invoke, builtin, hs, hx, hrun, Result.andThen]
 exact hK v' w' r1 r2
theorem step_call {P : Program} {ops : Array Oper} {o : Oper} {a : Act} {w : World} {K : Act → World → Prop} {Q : Exit → Act → World → Prop} {E : Prop}
   (hg : o.guard = none) (f : Nat) (x : Operand) (t : TypeId) (hop : o.op = Op.call { callee := Callee.value (Operand.func f), args := #[x], argTypes := #[t] })
   (F : Func) (hF : P.funcs[f]? = some F) (hF1 : F.name ≠ "runtime.NumGoroutine") (hF2 : F.body ≠ none) (v : Value) (hx : a.eval x = v) (R : Value → World → Prop) (hc : Calls P f #[v] w fun e w' => ∃ v', e = .returned v' ∧ R v' w') (hK : ∀ v' w', R v' w' → K (a.put o.dst v') w') :
   if Region.wanted o (yielded ops a.tmps) = true then Oper.wp P o a w K Q else E := by
 have hw : Region.wanted o (yielded ops a.tmps) = true := by simp [Region.wanted, hg]
 rw [if_pos hw]
 obtain ⟨fv, hf⟩ : ∃ fv, a.eval (Operand.func f) = fv := ⟨_, rfl⟩
 have hf2 := hf
 simp only [Act.eval] at hf2
 subst hf2
 unfold Oper.wp
 simp [execOp, hop, resolve, invoke, hx, hf, Deferred.ofValue, callFunc, hF, hF1, hF2, Result.andThen]
 refine hc.mono ?_
 rintro e w' ⟨v', rfl, hr⟩
 exact hK v' w' hr
theorem own_keep {w w' : World} {base : Nat} {e : TypeId} {size n : Nat} {v : Value} {xs : List Value} (h : w.ownsRow base e size v n xs) (hk : ∀ g, v.ownBlock = some g → w'.heap[g]? = w.heap[g]?) : w'.ownsRow base e size v n xs := by
 refine ⟨h.1, ?_⟩
 rcases h.2 with hn | ⟨g, cap, cur, rfl, hb, hgg, rest⟩
 · exact .inl hn
 · exact .inr ⟨g, cap, cur, rfl, hb, (hk g rfl).trans hgg, rest⟩
theorem own_down {w : World} {base base' : Nat} {e : TypeId} {size n : Nat} {v : Value} {xs : List Value} (h : w.ownsRow base e size v n xs) (hb : base' ≤ base) : w.ownsRow base' e size v n xs := by
 refine ⟨h.1, ?_⟩
 rcases h.2 with hn | ⟨g, cap, cur, rfl, hg, rest⟩
 · exact .inl hn
 · exact .inr ⟨g, cap, cur, rfl, Nat.le_trans hb hg, rest⟩
theorem below_grow {B : Nat} {A C : World} {row : Option Nat} (h : A.grownBy C row) (hr : ∀ k, row = some k → B ≤ k) (hB : B ≤ A.heap.size) : Below B A C :=
 ⟨h.os, h.tape, h.output, h.size, fun k hk => h.block k (Nat.lt_of_lt_of_le hk hB) (fun e => by have := hr k e.symm; omega)⟩
theorem own_get {B g n c : Nat} {W : World} {xs : List Value} {t : TypeId} (h : W.ownsRow B t 1 (.slice (some ⟨g, 0, none⟩) n c) n xs) (i : Nat) (x : Value) (hx : xs[i]? = some x) : W.cell? ⟨g, i, none⟩ = some x := by
 rcases h.2 with ⟨e, _⟩ | ⟨g', cap, cur, e, hb, hg, h1, h2, h3, h4⟩
 · simp at e
 · simp only [Value.slice.injEq, Option.some.injEq, Addr.mk.injEq, and_true, true_and] at e
   obtain ⟨rfl, rfl⟩ := e
   rw [Blk.cell (cs := cur) hg]
   have hi := (List.getElem?_eq_some_iff.1 hx).1
   have hl : xs.length = n * 1 := h.1
   have h5 : (cur.toList.take (n * 1))[i]? = xs[i]? := by rw [h4]
   rw [List.getElem?_take, if_pos (by omega), hx] at h5
   simpa using h5
theorem own_below {B base : Nat} {w w' : World} {e : TypeId} {size n : Nat} {v : Value} {xs : List Value} (h : w.ownsRow base e size v n xs) (hb : Below B w w') (hB : w.heap.size ≤ B) : w'.ownsRow base e size v n xs :=
 own_keep h (fun k hk => hb.block k (by have := (h.lt k hk).2; omega))
end Go.Proofs.Ytdpokdcendgfeaa
namespace Go.Proofs.Ytdpokdcendgfeaa
open Go.RowKit
theorem endS_le (l : List Ac) : ∀ (m i : Nat) (left : Int) (e : Nat), l.length - i = m → endS l i left = some e → i ≤ l.length → i ≤ e ∧ e ≤ l.length ∧ (0 < left → i < e)
 | 0, i, left, e, hm, h, hi => by
   by_cases hp : left ≤ 0
   · rw [endS_stop hp] at h
     injection h with h
     omega
   · rw [endS_none hp (List.getElem?_eq_none (by omega))] at h
     cases h
 | m + 1, i, left, e, hm, h, hi => by
   by_cases hp : left ≤ 0
   · rw [endS_stop hp] at h
     injection h with h
     omega
   · rw [endS_step hp (List.getElem?_eq_getElem (by omega))] at h
     have := endS_le l m (i + 1) _ e (by omega) h (by omega)
     omega
/-- the kids' spans -/
def kidsS (l : List Ac) : Nat → Nat → Option (List (Nat × Nat))
 | 0, _ => some []
 | m + 1, k => match endS l k 1 with
   | none => none
   | some e => (kidsS l m e).map ((k, e) :: ·)
def spv (ad : Addr) (r : Nat × Nat) : Value := .slice (some (ad.add (r.1 * 6))) (r.2 - r.1) (r.2 - r.1)
theorem one_at (w : World) (t : TypeId) (x : Value) : ∀ j u, [x][j]? = some u → (w.alloc (.cells #[x] t)).cell? ((⟨w.heap.size, 0, none⟩ : Addr).add j) = some u := by
 intro j u hj
 obtain rfl : j = 0 := by have := (List.getElem?_eq_some_iff.1 hj).1; simp at this; exact this
 simp at hj
 subst hj
 exact (Blk.new w t #[x]).cell 0
set_option maxRecDepth 100000 in
theorem kids_i (w : World) (ad : Addr) (c : Nat) (l : List Ac) (i : Nat) (x : Ac) (sp : List (Nat × Nat)) (h : Src w (some ad) l.length (acs l)) (hs : Small l) (hx : l[i]? = some x) (hk : kidsS l x.n.toNat (i + 1) = some sp) (hc : l.length ≤ c) (hcm : c ≤ maxLen) :
   Calls Try.prog 114 #[.slice (some ad) l.length c, .int .i64 (i : Int)] w fun en w' => ∃ v, en = .returned v ∧ w'.ownsRow w.heap.size 26 1 v sp.length (sp.map (spv ad)) ∧ Below w.heap.size w w' := by
 have HS := hide h
 have HSM := hide hs
 have HK := hide hk
 have hln := hs.1
 obtain ⟨hn0, hn1⟩ := hs.2 x (List.mem_of_getElem? hx)
 have hil := (List.getElem?_eq_some_iff.1 hx).1
 obtain ⟨ad', e', hab, q0, q1, q2, q3, q4, q5⟩ := acs_row h hx
 cases e'
 have hI0 : (0 : Int) ≤ (i : Int) := by omega
 have hI : (i : Int) < (l.length : Int) := by omega
 have hq1 := IntWalk.i64_in ((i : Int) + 1) (by omega)
 obtain ⟨i3, hi3, hz0, hz1, hz2⟩ := info_parts3 infS
 obtain ⟨N, hN⟩ : ∃ N : Nat, x.n = (N : Int) := ⟨x.n.toNat, by omega⟩
 rw [hN] at q5
 have HK2 := hide (show kidsS l N (i + 1) = some sp by rw [← hk, hN]; rfl)
 have hN2 : N ≤ 262144 := by omega
 unfold maxLen at hcm
 clear h hs hk hN hn0 hn1 hx q0 q1 q2 q3 q4
 have HO0 := hide (World.ownsRow_nil w w.heap.size 26 1)
 go_enter Try.func114, Try.ntmps114
 go_wp2_with fail
 go_loopw [5, 6, 15] (fun t5 t6 t15 W => ∃ (j k : Nat) (ds rest : List (Nat × Nat)), t6 = .int .i64 (k : Int) ∧ t15 = .int .i64 (j : Int) ∧ j ≤ N ∧ k ≤ l.length ∧ W.ownsRow w.heap.size 26 1 t5 ds.length (ds.map (spv ad)) ∧ kidsS l (N - j) k = some rest ∧ sp = ds ++ rest ∧ ds.length = j ∧ Below w.heap.size w W) (fun _ _ t15 _ => N - (intOf t15).toNat)
 case atStart => exact ⟨0, i + 1, [], sp, by go_num, rfl, Nat.zero_le _, by omega, by simpa using HO0.out, HK2.out, rfl, rfl, Below.refl _ _⟩
 case round =>
   obtain ⟨j, k, ds, rest, rfl, rfl, hj, hkl, hown, hks, hsp, hds, hb⟩ := hrel
   rename World => W
   have HOWN := hide hown
   have HB := hide hb
   have hq2 := IntWalk.i64_in ((j : Int) + 1) (by omega)
   by_cases hjn : j < N
   · have hjI : (j : Int) < (N : Int) := by omega
     obtain ⟨m, hm⟩ : ∃ m, N - j = m + 1 := ⟨N - j - 1, by omega⟩
     rw [hm] at hks
     simp only [kidsS] at hks
     cases he : endS l k 1 with
     | none => simp [he] at hks
     | some e =>
       simp only [he] at hks
       cases hr : kidsS l m e with
       | none => simp [hr] at hks
       | some r2 =>
         simp only [hr, Option.map_some, Option.some.injEq] at hks
         have hle := endS_le l _ k 1 e rfl he hkl
         have HEND := hide (end_i W (some ad) c l k e (HS.out.below hb) HSM.out he hkl)
         have HR := hide (show kidsS l (N - (j + 1)) e = some r2 by rw [show N - (j + 1) = m by omega]; exact hr)
         have HSP := hide (show sp = (ds ++ [(k, e)]) ++ r2 by rw [hsp, ← hks]; simp)
         obtain ⟨l1, l2, l3⟩ := hle
         have l3' := l3 (by omega)
         have hk0 : (0 : Int) ≤ (k : Int) := by omega
         have hk1 : (k : Int) ≤ (e : Int) := by omega
         have hk2 : e ≤ c := by omega
         have hk3 : (e : Int) ≤ (c : Int) := by omega
         have hke : k ≤ e := l1
         clear hown hks hsp hb he hr l3
         have hds9 : ds.length ≤ 262144 := by omega
         go_wp2_with (first | (go_at_call 76; refine HEND.out.mono ?_; rintro en w2 ⟨rfl, mm, rfl⟩; have HOA := hide (own_keep (w' := (W.drewN mm).alloc (.cells #[spv ad (k, e)] 26)) (HOWN.out : (W.drewN mm).ownsRow w.heap.size 26 1 u5 ds.length (ds.map (spv ad))) (fun g hg => Below.heap_alloc _ _ g (HOWN.out.lt g hg).2)); have HTW := hide (one_at (W.drewN mm) 26 (spv ad (k, e))); have HBD := hide (below_drewN HB.out mm)) | (at_builtin; refine wpList_append_own_at _ rfl (.tmp 20) (.tmp 26) 25 rfl w.heap.size 26 i3 _ 1 24 Try.underlying25 hi3 hz0 hz1 hz2 rfl (by decide) u5 ds.length (ds.map (spv ad)) rfl HOA.out ⟨(W.drewN mm).heap.size, 0, none⟩ 1 1 [spv ad (k, e)] rfl rfl HTW.out (by simp [Value.oneCell', spv]) (by unfold maxLen; omega) (by omega) (by have := HBD.out.size; simp at this ⊢; omega) ?_; rintro v3 w3 hown3 hgr3 hnil3 hat3; clear hnil3 hat3; have HO3 := hide hown3; have HG3 := hide hgr3; clear hown3 hgr3))
         go_roundw
         case rel =>
           refine ⟨j + 1, e, ds ++ [(k, e)], r2, rfl, by go_num, by omega, l2, ?_, HR.out, HSP.out, by simp; omega, ?_⟩
           · have := HO3.out
             simpa using this
           · exact (HBD.out.alloc HBD.out.size _).trans (below_grow HG3.out (fun g hg => (HOWN.out.lt g hg).1) (by have := HBD.out.size; simp at this ⊢; omega))
         case measure =>
           simp only [intOf]
           omega
   · have hjn2 : j = N := by omega
     have hre : rest = [] := by rw [hjn2, Nat.sub_self] at hks; simpa [kidsS] using hks.symm
     have HF := hide (show W.ownsRow w.heap.size 26 1 u5 sp.length (sp.map (spv ad)) by rw [hsp, hre, List.append_nil]; exact hown)
     have hjI : ¬ (j : Int) < (N : Int) := by omega
     clear hown hks hsp hb hre
     go_wp2_with fail
     go_ret
     exact ⟨_, rfl, HF.out, HB.out⟩
end Go.Proofs.Ytdpokdcendgfeaa
