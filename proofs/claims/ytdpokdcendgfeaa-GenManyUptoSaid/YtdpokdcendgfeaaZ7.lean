/- Several texts in one: The walks of kidsOf, queue, numbers. The walk of numbers. Conditions: those of each. -/
import Derived.Test.YtdpokdcendgfeaaZ2
set_option linter.unusedSimpArgs false
set_option linter.unusedVariables false
set_option maxHeartbeats 40000000
namespace Go.Proofs.Ytdpokdcendgfeaa
open Go.RowKit
theorem blk_new2 (w : World) (o : Obj) (t : TypeId) (cs : Array Value) : Blk ((w.alloc o).alloc (.cells cs t)) (w.heap.size + 1) t cs := by
 have := Blk.new (w.alloc o) t cs
 simpa using this
theorem kids_mk {w W : World} {k n : Int} {en : Ending} {g : Nat} {t : TypeId} (L : List Int) (h : kidsV k n = L) (he : en = .returned (.slice (some ⟨g, 0, none⟩) L.length L.length)) (hb : Blk W g t (ints L).toArray) (hg : w.heap.size ≤ g) (hB : Below w.heap.size w W) :
   ∃ oa, en = .returned (.slice oa (kidsV k n).length (kidsV k n).length) ∧ Src W oa (kidsV k n).length (ints (kidsV k n)) ∧ (∀ ad, oa = some ad → w.heap.size ≤ ad.block) ∧ Below w.heap.size w W := by
 subst h
 exact ⟨_, he, src_blk _ hb, fun ad e => by injection e with e; subst e; exact hg, hB⟩
theorem kids_no {w W : World} {k n : Int} {en : Ending} (h : kidsV k n = []) (he : en = .returned (.slice none 0 0)) (hB : Below w.heap.size w W) :
   ∃ oa, en = .returned (.slice oa (kidsV k n).length (kidsV k n).length) ∧ Src W oa (kidsV k n).length (ints (kidsV k n)) ∧ (∀ ad, oa = some ad → w.heap.size ≤ ad.block) ∧ Below w.heap.size w W := by
 rw [h]
 exact ⟨none, he, src_nil _ _, fun ad e => (by cases e), hB⟩
set_option maxRecDepth 100000 in
theorem kidsOf_i (w : World) (x : Ac) : Calls Try.prog 104 #[x.val] w fun en w' => ∃ oa, en = .returned (.slice oa (kidsV x.k x.n).length (kidsV x.k x.n).length) ∧ Src w' oa (kidsV x.k x.n).length (ints (kidsV x.k x.n)) ∧ (∀ ad, oa = some ad → w.heap.size ≤ ad.block) ∧ Below w.heap.size w w' := by
 obtain ⟨k, a, b, c, d, n⟩ := x
 simp only [Ac.val]
 go_enter Try.func104, Try.ntmps104
 go_wp2
 all_goals
   go_ret
   simp only [beq_iff_eq, beq_eq_false_iff_ne, ne_eq] at *
   first
   | exact kids_mk [3, 1, 1] (by simp [kidsV, *]) rfl (blk_new2 _ _ _ _) (by omega) (((Below.refl _ w).alloc (Nat.le_refl _) _).alloc (by simp) _)
   | exact kids_mk [3, 1] (by simp [kidsV, *]) rfl (blk_new2 _ _ _ _) (by omega) (((Below.refl _ w).alloc (Nat.le_refl _) _).alloc (by simp) _)
   | exact kids_mk [2] (by simp [kidsV, *]) rfl (blk_new2 _ _ _ _) (by omega) (((Below.refl _ w).alloc (Nat.le_refl _) _).alloc (by simp) _)
   | exact kids_mk [5, 2] (by simp [kidsV, *]) rfl (blk_new2 _ _ _ _) (by omega) (((Below.refl _ w).alloc (Nat.le_refl _) _).alloc (by simp) _)
   | exact kids_mk [5] (by simp [kidsV, *]) rfl (blk_new2 _ _ _ _) (by omega) (((Below.refl _ w).alloc (Nat.le_refl _) _).alloc (by simp) _)
   | exact kids_mk [2, 2] (by simp [kidsV, *]) rfl (blk_new2 _ _ _ _) (by omega) (((Below.refl _ w).alloc (Nat.le_refl _) _).alloc (by simp) _)
   | exact kids_mk [4, 4] (by simp [kidsV, *]) rfl (blk_new2 _ _ _ _) (by omega) (((Below.refl _ w).alloc (Nat.le_refl _) _).alloc (by simp) _)
   | exact kids_mk [3] (by simp [kidsV, *]) rfl (blk_new2 _ _ _ _) (by omega) (((Below.refl _ w).alloc (Nat.le_refl _) _).alloc (by simp) _)
   | exact kids_mk [3, 3] (by simp [kidsV, *]) rfl (blk_new2 _ _ _ _) (by omega) (((Below.refl _ w).alloc (Nat.le_refl _) _).alloc (by simp) _)
   | exact kids_no (by simp [kidsV, *]) rfl ((Below.refl _ w).alloc (Nat.le_refl _) _)
/-- a plan's slices, as a value -/
structure PlV where
 (ga va ta oa ma : Option Addr)
 (gl gc vl vc tl tc ol oc ml mc : Nat)
def PlV.val (q : PlV) : Value := .agg #[.slice q.ga q.gl q.gc, .slice q.va q.vl q.vc, .slice q.ta q.tl q.tc, .slice q.oa q.ol q.oc, .slice q.ma q.ml q.mc]
def chk (q : PlV) (ra : Option Addr) (rl rc : Nat) (i : Nat) : Array Value := #[.slice q.ga q.gl q.gc, .slice q.va q.vl q.vc, .slice q.ta q.tl q.tc, .slice q.oa q.ol q.oc, .slice q.ma q.ml q.mc, .slice ra rl rc, .int .i64 (i : Int)]
set_option maxRecDepth 100000 in
theorem queue_i (w : World) (g : Nat) (q : PlV) (ra : Option Addr) (rl rc i : Nat) (n : Int) (hk : Blk w g 106 (chk q ra rl rc i)) (hgl : q.gl ≤ maxLen) : Calls Try.prog 135 #[.pointer (some ⟨g, 0, none⟩), .int .i64 n] w fun en w' => en = .returned (.bool (fromV n 0 ((q.gl : Int) - 1))) ∧ w = w' := by
 have c0 : w.cell? ⟨g, 0, none⟩ = some (.slice q.ga q.gl q.gc) := by rw [hk.cell]; rfl
 have HF := fun (W : World) (hi : Int) => hide (from_i W n 0 hi)
 unfold maxLen at hgl
 have u1 := IntWalk.i64_in ((q.gl : Int) - 1) (by omega)
 clear hk
 go_enter Try.func135, Try.ntmps135
 go_wp2_with fail
 go_at_call 63
 refine (HF _ _).out.mono ?_
 rintro en w1 ⟨rfl, rfl⟩
 go_wp2_with fail
 go_ret
 exact ⟨rfl, rfl⟩
end Go.Proofs.Ytdpokdcendgfeaa
namespace Go.Proofs.Ytdpokdcendgfeaa
open Go.RowKit
theorem quiet_nn {P : Program} {f : FuncId} {args : Array Value} {w : World} {m n : Nat} {v : Value} (h : Calls P f args (w.drewN (m + n)) fun e w' => e = .returned v ∧ w' = w.drewN (m + n)) : Calls P f args (w.drewN (m + n)) fun e w'' => e = .returned v ∧ ∃ k, w'' = w.drewN (m + k) :=
 h.mono fun _ _ ⟨he, hm⟩ => ⟨he, n, hm⟩
theorem bA (w : World) (o : Obj) : Below w.heap.size w (w.alloc o) := (Below.refl _ w).alloc (Nat.le_refl _) _
theorem bD (w : World) (o : Obj) (n : Nat) : Below w.heap.size w ((w.alloc o).drewN n) := below_drewN (bA w o) n
theorem ck_cells {w : World} {g : Nat} {t : TypeId} {ga va ta oa ma ra : Option Addr} {gl gc vl vc tl tc ol oc ml mc rl rc i : Nat} (hk : Blk w g t (chk ⟨ga, va, ta, oa, ma, gl, gc, vl, vc, tl, tc, ol, oc, ml, mc⟩ ra rl rc i)) (o : Obj) :
   (w.alloc o).cell? ⟨g, 0, none⟩ = some (.slice ga gl gc) ∧ (w.alloc o).cell? ⟨g, 1, none⟩ = some (.slice va vl vc) ∧ (w.alloc o).cell? ⟨g, 2, none⟩ = some (.slice ta tl tc) :=
 ⟨(World.cell?_alloc_lt w _ _ hk.lt).trans (by rw [hk.cell]; rfl), (World.cell?_alloc_lt w _ _ hk.lt).trans (by rw [hk.cell]; rfl), (World.cell?_alloc_lt w _ _ hk.lt).trans (by rw [hk.cell]; rfl)⟩
def bools (l : List Bool) : List Value := l.map (.bool)
/-- the checker, as the walks need it -/
structure Ck (w : World) (g : Nat) (q : PlV) (P : Pl) (ra : Option Addr) (rl rc i : Nat) : Prop where
 k : Blk w g 106 (chk q ra rl rc i)
 gl : q.gl = P.gh.length
 vl : q.vl = P.vs.length
 tl : q.tl = P.ts.length
 gs : Src w q.ga P.gh.length (bools P.gh)
 l : P.gh.length ≤ maxLen ∧ P.vs.length ≤ maxLen ∧ P.ts.length ≤ maxLen
theorem Ck.below {w w' : World} {g : Nat} {q : PlV} {P : Pl} {ra : Option Addr} {rl rc i : Nat} (h : Ck w g q P ra rl rc i) (hb : Below w.heap.size w w') : Ck w' g q P ra rl rc i :=
 ⟨h.k.below hb h.k.lt, h.gl, h.vl, h.tl, h.gs.below hb, h.l⟩
theorem gh_at {w : World} {oa : Option Addr} {l : List Bool} {a : Int} (h : Src w oa l.length (bools l)) (hq : qV l a = true) : ∃ ad, oa = some ad ∧ ad.block < w.heap.size ∧ 0 ≤ a ∧ a < (l.length : Int) ∧ w.cell? (ad.add a.toNat) = some (.bool (ghV l a)) := by
 simp only [qV, fromV, Bool.and_eq_true, decide_eq_true_eq] at hq
 obtain ⟨ad, e, hl, hx⟩ := h (by omega)
 refine ⟨ad, e, hl, hq.1, by omega, hx _ _ ?_⟩
 have : a.toNat < l.length := by omega
 simp [bools, ghV, this]
set_option maxRecDepth 100000 in
theorem numbers_k3 (w : World) (g : Nat) (q : PlV) (P : Pl) (ra : Option Addr) (rl rc i : Nat) (x : Ac) (h : Ck w g q P ra rl rc i) (hx : x.k = 3) :
   Calls Try.prog 102 #[.pointer (some ⟨g, 0, none⟩), x.val] w fun en w' => en = .returned (.bool (numV P x)) ∧ Below w.heap.size w w' := by
 obtain ⟨k, a, b, c, d, n⟩ := x
 simp only at hx
 subst hx
 obtain ⟨hk, e1, e2, e3, hs, l1, l2, l3⟩ := h
 obtain ⟨ga, va, ta, oa, ma, gl, gc, vl, vc, tl, tc, ol, oc, ml, mc⟩ := q
 simp only at e1 e2 e3 hs
 subst e1 e2 e3
 have HQ0 := fun (W : World) (y : Int) (hb : Below w.heap.size w W) => hide ((queue_i W g _ ra rl rc i y (hk.below hb hk.lt) l1).mono (fun en w' hh => (⟨hh.1, hh.2.symm⟩ : en = .returned (.bool (fromV y 0 ((P.gh.length : Int) - 1))) ∧ w' = W)))
 have HF := fun (W : World) (y lo hi : Int) => hide ((from_i W y lo hi).mono (fun en w' hh => (⟨hh.1, hh.2.symm⟩ : en = .returned (.bool (fromV y lo hi)) ∧ w' = W)))
 obtain ⟨nv, hnv⟩ : ∃ nv, numV P ⟨3, a, b, c, d, n⟩ = nv := ⟨_, rfl⟩
 rw [hnv]
 have HNV := hide hnv
 clear hnv
 have HQA := fun (W : World) (hb : Below w.heap.size w W) => HQ0 W a hb
 have HQC := fun (W : World) (hb : Below w.heap.size w W) => HQ0 W c hb
 clear HQ0
 unfold maxLen at l1 l2 l3
 simp only [Ac.val]
 have hlt := hk.lt
 obtain ⟨ce0, ce1, ce2⟩ := ck_cells hk (.cells #[.int .i64 3, .int .i64 a, .int .i64 b, .int .i64 c, .int .i64 d, .int .i64 n] 49)
 have u1 := IntWalk.i64_in ((P.gh.length : Int) - 1) (by omega)
 have u2 := IntWalk.i64_in ((P.vs.length : Int) - 1) (by omega)
 have u3 := IntWalk.i64_in ((P.ts.length : Int) - 1) (by omega)
 go_enter Try.func102, Try.ntmps102
 go_wp2_with fail
 by_cases hc : c = 0
 case' pos => subst hc
 case' neg =>
   have hc1 : (c == 0) = false := by simp [hc]
   have hc2 : decide (c = 0) = false := by simp [hc]
 all_goals
   go_quiet (fail)
   go_wp2_with (first | (go_at_call 63; refine (HF _ _ _ _).out.mono ?_; rintro en w1 ⟨rfl, rfl⟩) | (go_at_call 135; refine (HQA _ (bD _ _ _)).out.mono ?_; rintro en w1 ⟨rfl, rfl⟩))
   all_goals try (go_quiet (first | (go_at_call 63; exact quiet_nn (HF _ _ _ _).out) | (go_at_call 135; exact quiet_nn (HQA _ (bD _ _ _)).out) | (go_at_call 135; exact quiet_nn (HQC _ (bD _ _ _)).out)); go_wp2_with (first | (go_at_call 63; refine (HF _ _ _ _).out.mono ?_; rintro en w1 ⟨rfl, rfl⟩) | (go_at_call 135; refine (HQA _ (bD _ _ _)).out.mono ?_; rintro en w1 ⟨rfl, rfl⟩)))
   all_goals
     go_ret
     refine ⟨?_, ?_⟩
     · rw [← HNV.out]
       congr 2
       simp [numV, qV, *]
       try (rw [Bool.eq_iff_iff]; simp; done)
     · first | exact bA _ _ | exact bD _ _ _
set_option maxRecDepth 100000 in
theorem numbers_k4 (w : World) (g : Nat) (q : PlV) (P : Pl) (ra : Option Addr) (rl rc i : Nat) (x : Ac) (h : Ck w g q P ra rl rc i) (hx : x.k = 4) :
   Calls Try.prog 102 #[.pointer (some ⟨g, 0, none⟩), x.val] w fun en w' => en = .returned (.bool (numV P x)) ∧ Below w.heap.size w w' := by
 obtain ⟨k, a, b, c, d, n⟩ := x
 simp only at hx
 subst hx
 obtain ⟨hk, e1, e2, e3, hs, l1, l2, l3⟩ := h
 obtain ⟨ga, va, ta, oa, ma, gl, gc, vl, vc, tl, tc, ol, oc, ml, mc⟩ := q
 simp only at e1 e2 e3 hs
 subst e1 e2 e3
 have HQ0 := fun (W : World) (y : Int) (hb : Below w.heap.size w W) => hide ((queue_i W g _ ra rl rc i y (hk.below hb hk.lt) l1).mono (fun en w' hh => (⟨hh.1, hh.2.symm⟩ : en = .returned (.bool (fromV y 0 ((P.gh.length : Int) - 1))) ∧ w' = W)))
 have HF := fun (W : World) (y lo hi : Int) => hide ((from_i W y lo hi).mono (fun en w' hh => (⟨hh.1, hh.2.symm⟩ : en = .returned (.bool (fromV y lo hi)) ∧ w' = W)))
 obtain ⟨nv, hnv⟩ : ∃ nv, numV P ⟨4, a, b, c, d, n⟩ = nv := ⟨_, rfl⟩
 rw [hnv]
 have HNV := hide hnv
 clear hnv
 have HQA := fun (W : World) (hb : Below w.heap.size w W) => HQ0 W a hb
 have HQC := fun (W : World) (hb : Below w.heap.size w W) => HQ0 W c hb
 clear HQ0
 unfold maxLen at l1 l2 l3
 simp only [Ac.val]
 have hlt := hk.lt
 obtain ⟨ce0, ce1, ce2⟩ := ck_cells hk (.cells #[.int .i64 4, .int .i64 a, .int .i64 b, .int .i64 c, .int .i64 d, .int .i64 n] 49)
 have u1 := IntWalk.i64_in ((P.gh.length : Int) - 1) (by omega)
 have u2 := IntWalk.i64_in ((P.vs.length : Int) - 1) (by omega)
 have u3 := IntWalk.i64_in ((P.ts.length : Int) - 1) (by omega)
 go_enter Try.func102, Try.ntmps102
 go_wp2_with fail
 by_cases hc : c = 0
 case' pos => subst hc
 case' neg =>
   have hc1 : (c == 0) = false := by simp [hc]
   have hc2 : decide (c = 0) = false := by simp [hc]
 all_goals
   go_quiet (fail)
   go_wp2_with (first | (go_at_call 63; refine (HF _ _ _ _).out.mono ?_; rintro en w1 ⟨rfl, rfl⟩) | (go_at_call 135; refine (HQA _ (bD _ _ _)).out.mono ?_; rintro en w1 ⟨rfl, rfl⟩))
   all_goals try (go_quiet (first | (go_at_call 63; exact quiet_nn (HF _ _ _ _).out) | (go_at_call 135; exact quiet_nn (HQA _ (bD _ _ _)).out) | (go_at_call 135; exact quiet_nn (HQC _ (bD _ _ _)).out)); go_wp2_with (first | (go_at_call 63; refine (HF _ _ _ _).out.mono ?_; rintro en w1 ⟨rfl, rfl⟩) | (go_at_call 135; refine (HQA _ (bD _ _ _)).out.mono ?_; rintro en w1 ⟨rfl, rfl⟩)))
   all_goals
     go_ret
     refine ⟨?_, ?_⟩
     · rw [← HNV.out]
       congr 2
       simp [numV, qV, *]
       try (rw [Bool.eq_iff_iff]; simp; done)
     · first | exact bA _ _ | exact bD _ _ _
set_option maxRecDepth 100000 in
theorem numbers_k21 (w : World) (g : Nat) (q : PlV) (P : Pl) (ra : Option Addr) (rl rc i : Nat) (x : Ac) (h : Ck w g q P ra rl rc i) (hx : x.k = 21) :
   Calls Try.prog 102 #[.pointer (some ⟨g, 0, none⟩), x.val] w fun en w' => en = .returned (.bool (numV P x)) ∧ Below w.heap.size w w' := by
 obtain ⟨k, a, b, c, d, n⟩ := x
 simp only at hx
 subst hx
 obtain ⟨hk, e1, e2, e3, hs, l1, l2, l3⟩ := h
 obtain ⟨ga, va, ta, oa, ma, gl, gc, vl, vc, tl, tc, ol, oc, ml, mc⟩ := q
 simp only at e1 e2 e3 hs
 subst e1 e2 e3
 have HQ0 := fun (W : World) (y : Int) (hb : Below w.heap.size w W) => hide ((queue_i W g _ ra rl rc i y (hk.below hb hk.lt) l1).mono (fun en w' hh => (⟨hh.1, hh.2.symm⟩ : en = .returned (.bool (fromV y 0 ((P.gh.length : Int) - 1))) ∧ w' = W)))
 have HF := fun (W : World) (y lo hi : Int) => hide ((from_i W y lo hi).mono (fun en w' hh => (⟨hh.1, hh.2.symm⟩ : en = .returned (.bool (fromV y lo hi)) ∧ w' = W)))
 obtain ⟨nv, hnv⟩ : ∃ nv, numV P ⟨21, a, b, c, d, n⟩ = nv := ⟨_, rfl⟩
 rw [hnv]
 have HNV := hide hnv
 clear hnv
 have HQA := fun (W : World) (hb : Below w.heap.size w W) => HQ0 W a hb
 have HQC := fun (W : World) (hb : Below w.heap.size w W) => HQ0 W c hb
 clear HQ0
 unfold maxLen at l1 l2 l3
 simp only [Ac.val]
 have hlt := hk.lt
 obtain ⟨ce0, ce1, ce2⟩ := ck_cells hk (.cells #[.int .i64 21, .int .i64 a, .int .i64 b, .int .i64 c, .int .i64 d, .int .i64 n] 49)
 have u1 := IntWalk.i64_in ((P.gh.length : Int) - 1) (by omega)
 have u2 := IntWalk.i64_in ((P.vs.length : Int) - 1) (by omega)
 have u3 := IntWalk.i64_in ((P.ts.length : Int) - 1) (by omega)
 go_enter Try.func102, Try.ntmps102
 go_wp2_with fail
 by_cases hc : c = 0
 case' pos => subst hc
 case' neg =>
   have hc1 : (c == 0) = false := by simp [hc]
   have hc2 : decide (c = 0) = false := by simp [hc]
 all_goals
   go_quiet (fail)
   go_wp2_with (first | (go_at_call 63; refine (HF _ _ _ _).out.mono ?_; rintro en w1 ⟨rfl, rfl⟩) | (go_at_call 135; refine (HQA _ (bD _ _ _)).out.mono ?_; rintro en w1 ⟨rfl, rfl⟩))
   all_goals try (go_quiet (first | (go_at_call 63; exact quiet_nn (HF _ _ _ _).out) | (go_at_call 135; exact quiet_nn (HQA _ (bD _ _ _)).out) | (go_at_call 135; exact quiet_nn (HQC _ (bD _ _ _)).out)); go_wp2_with (first | (go_at_call 63; refine (HF _ _ _ _).out.mono ?_; rintro en w1 ⟨rfl, rfl⟩) | (go_at_call 135; refine (HQA _ (bD _ _ _)).out.mono ?_; rintro en w1 ⟨rfl, rfl⟩)))
   all_goals
     go_ret
     refine ⟨?_, ?_⟩
     · rw [← HNV.out]
       congr 2
       simp [numV, qV, *]
       try (rw [Bool.eq_iff_iff]; simp; done)
     · first | exact bA _ _ | exact bD _ _ _
set_option maxRecDepth 100000 in
theorem numbers_k5 (w : World) (g : Nat) (q : PlV) (P : Pl) (ra : Option Addr) (rl rc i : Nat) (x : Ac) (h : Ck w g q P ra rl rc i) (hx : x.k = 5) :
   Calls Try.prog 102 #[.pointer (some ⟨g, 0, none⟩), x.val] w fun en w' => en = .returned (.bool (numV P x)) ∧ Below w.heap.size w w' := by
 obtain ⟨k, a, b, c, d, n⟩ := x
 simp only at hx
 subst hx
 obtain ⟨hk, e1, e2, e3, hs, l1, l2, l3⟩ := h
 obtain ⟨ga, va, ta, oa, ma, gl, gc, vl, vc, tl, tc, ol, oc, ml, mc⟩ := q
 simp only at e1 e2 e3 hs
 subst e1 e2 e3
 have HQ0 := fun (W : World) (y : Int) (hb : Below w.heap.size w W) => hide ((queue_i W g _ ra rl rc i y (hk.below hb hk.lt) l1).mono (fun en w' hh => (⟨hh.1, hh.2.symm⟩ : en = .returned (.bool (fromV y 0 ((P.gh.length : Int) - 1))) ∧ w' = W)))
 have HF := fun (W : World) (y lo hi : Int) => hide ((from_i W y lo hi).mono (fun en w' hh => (⟨hh.1, hh.2.symm⟩ : en = .returned (.bool (fromV y lo hi)) ∧ w' = W)))
 obtain ⟨nv, hnv⟩ : ∃ nv, numV P ⟨5, a, b, c, d, n⟩ = nv := ⟨_, rfl⟩
 rw [hnv]
 have HNV := hide hnv
 clear hnv
 have HQA := fun (W : World) (hb : Below w.heap.size w W) => HQ0 W a hb
 have HQC := fun (W : World) (hb : Below w.heap.size w W) => HQ0 W c hb
 clear HQ0
 unfold maxLen at l1 l2 l3
 simp only [Ac.val]
 have hlt := hk.lt
 obtain ⟨ce0, ce1, ce2⟩ := ck_cells hk (.cells #[.int .i64 5, .int .i64 a, .int .i64 b, .int .i64 c, .int .i64 d, .int .i64 n] 49)
 have u1 := IntWalk.i64_in ((P.gh.length : Int) - 1) (by omega)
 have u2 := IntWalk.i64_in ((P.vs.length : Int) - 1) (by omega)
 have u3 := IntWalk.i64_in ((P.ts.length : Int) - 1) (by omega)
 go_enter Try.func102, Try.ntmps102
 go_wp2_with fail
 by_cases hc : c = 0
 case' pos => subst hc
 case' neg =>
   have hc1 : (c == 0) = false := by simp [hc]
   have hc2 : decide (c = 0) = false := by simp [hc]
 all_goals
   go_quiet (fail)
   go_wp2_with (first | (go_at_call 63; refine (HF _ _ _ _).out.mono ?_; rintro en w1 ⟨rfl, rfl⟩) | (go_at_call 135; refine (HQA _ (bD _ _ _)).out.mono ?_; rintro en w1 ⟨rfl, rfl⟩))
   all_goals try (go_quiet (first | (go_at_call 63; exact quiet_nn (HF _ _ _ _).out) | (go_at_call 135; exact quiet_nn (HQA _ (bD _ _ _)).out) | (go_at_call 135; exact quiet_nn (HQC _ (bD _ _ _)).out)); go_wp2_with (first | (go_at_call 63; refine (HF _ _ _ _).out.mono ?_; rintro en w1 ⟨rfl, rfl⟩) | (go_at_call 135; refine (HQA _ (bD _ _ _)).out.mono ?_; rintro en w1 ⟨rfl, rfl⟩)))
   all_goals
     go_ret
     refine ⟨?_, ?_⟩
     · rw [← HNV.out]
       congr 2
       simp [numV, qV, *]
       try (rw [Bool.eq_iff_iff]; simp; done)
     · first | exact bA _ _ | exact bD _ _ _
set_option maxRecDepth 100000 in
theorem numbers_k25 (w : World) (g : Nat) (q : PlV) (P : Pl) (ra : Option Addr) (rl rc i : Nat) (x : Ac) (h : Ck w g q P ra rl rc i) (hx : x.k = 25) :
   Calls Try.prog 102 #[.pointer (some ⟨g, 0, none⟩), x.val] w fun en w' => en = .returned (.bool (numV P x)) ∧ Below w.heap.size w w' := by
 obtain ⟨k, a, b, c, d, n⟩ := x
 simp only at hx
 subst hx
 obtain ⟨hk, e1, e2, e3, hs, l1, l2, l3⟩ := h
 obtain ⟨ga, va, ta, oa, ma, gl, gc, vl, vc, tl, tc, ol, oc, ml, mc⟩ := q
 simp only at e1 e2 e3 hs
 subst e1 e2 e3
 have HQ0 := fun (W : World) (y : Int) (hb : Below w.heap.size w W) => hide ((queue_i W g _ ra rl rc i y (hk.below hb hk.lt) l1).mono (fun en w' hh => (⟨hh.1, hh.2.symm⟩ : en = .returned (.bool (fromV y 0 ((P.gh.length : Int) - 1))) ∧ w' = W)))
 have HF := fun (W : World) (y lo hi : Int) => hide ((from_i W y lo hi).mono (fun en w' hh => (⟨hh.1, hh.2.symm⟩ : en = .returned (.bool (fromV y lo hi)) ∧ w' = W)))
 obtain ⟨nv, hnv⟩ : ∃ nv, numV P ⟨25, a, b, c, d, n⟩ = nv := ⟨_, rfl⟩
 rw [hnv]
 have HNV := hide hnv
 clear hnv
 have HQA := fun (W : World) (hb : Below w.heap.size w W) => HQ0 W a hb
 have HQC := fun (W : World) (hb : Below w.heap.size w W) => HQ0 W c hb
 clear HQ0
 unfold maxLen at l1 l2 l3
 simp only [Ac.val]
 have hlt := hk.lt
 obtain ⟨ce0, ce1, ce2⟩ := ck_cells hk (.cells #[.int .i64 25, .int .i64 a, .int .i64 b, .int .i64 c, .int .i64 d, .int .i64 n] 49)
 have u1 := IntWalk.i64_in ((P.gh.length : Int) - 1) (by omega)
 have u2 := IntWalk.i64_in ((P.vs.length : Int) - 1) (by omega)
 have u3 := IntWalk.i64_in ((P.ts.length : Int) - 1) (by omega)
 go_enter Try.func102, Try.ntmps102
 go_wp2_with fail
 by_cases hc : c = 0
 case' pos => subst hc
 case' neg =>
   have hc1 : (c == 0) = false := by simp [hc]
   have hc2 : decide (c = 0) = false := by simp [hc]
 all_goals
   go_quiet (fail)
   go_wp2_with (first | (go_at_call 63; refine (HF _ _ _ _).out.mono ?_; rintro en w1 ⟨rfl, rfl⟩) | (go_at_call 135; refine (HQA _ (bD _ _ _)).out.mono ?_; rintro en w1 ⟨rfl, rfl⟩))
   all_goals try (go_quiet (first | (go_at_call 63; exact quiet_nn (HF _ _ _ _).out) | (go_at_call 135; exact quiet_nn (HQA _ (bD _ _ _)).out) | (go_at_call 135; exact quiet_nn (HQC _ (bD _ _ _)).out)); go_wp2_with (first | (go_at_call 63; refine (HF _ _ _ _).out.mono ?_; rintro en w1 ⟨rfl, rfl⟩) | (go_at_call 135; refine (HQA _ (bD _ _ _)).out.mono ?_; rintro en w1 ⟨rfl, rfl⟩)))
   all_goals
     go_ret
     refine ⟨?_, ?_⟩
     · rw [← HNV.out]
       congr 2
       simp [numV, qV, *]
       try (rw [Bool.eq_iff_iff]; simp; done)
     · first | exact bA _ _ | exact bD _ _ _
set_option maxRecDepth 100000 in
theorem numbers_k19 (w : World) (g : Nat) (q : PlV) (P : Pl) (ra : Option Addr) (rl rc i : Nat) (x : Ac) (h : Ck w g q P ra rl rc i) (hx : x.k = 19) :
   Calls Try.prog 102 #[.pointer (some ⟨g, 0, none⟩), x.val] w fun en w' => en = .returned (.bool (numV P x)) ∧ Below w.heap.size w w' := by
 obtain ⟨k, a, b, c, d, n⟩ := x
 simp only at hx
 subst hx
 obtain ⟨hk, e1, e2, e3, hs, l1, l2, l3⟩ := h
 obtain ⟨ga, va, ta, oa, ma, gl, gc, vl, vc, tl, tc, ol, oc, ml, mc⟩ := q
 simp only at e1 e2 e3 hs
 subst e1 e2 e3
 have HQ0 := fun (W : World) (y : Int) (hb : Below w.heap.size w W) => hide ((queue_i W g _ ra rl rc i y (hk.below hb hk.lt) l1).mono (fun en w' hh => (⟨hh.1, hh.2.symm⟩ : en = .returned (.bool (fromV y 0 ((P.gh.length : Int) - 1))) ∧ w' = W)))
 have HF := fun (W : World) (y lo hi : Int) => hide ((from_i W y lo hi).mono (fun en w' hh => (⟨hh.1, hh.2.symm⟩ : en = .returned (.bool (fromV y lo hi)) ∧ w' = W)))
 obtain ⟨nv, hnv⟩ : ∃ nv, numV P ⟨19, a, b, c, d, n⟩ = nv := ⟨_, rfl⟩
 rw [hnv]
 have HNV := hide hnv
 clear hnv
 have HQA := fun (W : World) (hb : Below w.heap.size w W) => HQ0 W a hb
 have HQC := fun (W : World) (hb : Below w.heap.size w W) => HQ0 W c hb
 clear HQ0
 unfold maxLen at l1 l2 l3
 simp only [Ac.val]
 have hlt := hk.lt
 obtain ⟨ce0, ce1, ce2⟩ := ck_cells hk (.cells #[.int .i64 19, .int .i64 a, .int .i64 b, .int .i64 c, .int .i64 d, .int .i64 n] 49)
 have u1 := IntWalk.i64_in ((P.gh.length : Int) - 1) (by omega)
 have u2 := IntWalk.i64_in ((P.vs.length : Int) - 1) (by omega)
 have u3 := IntWalk.i64_in ((P.ts.length : Int) - 1) (by omega)
 go_enter Try.func102, Try.ntmps102
 go_wp2_with fail
 by_cases hc : c = 0
 case' pos => subst hc
 case' neg =>
   have hc1 : (c == 0) = false := by simp [hc]
   have hc2 : decide (c = 0) = false := by simp [hc]
 all_goals
   go_quiet (fail)
   go_wp2_with (first | (go_at_call 63; refine (HF _ _ _ _).out.mono ?_; rintro en w1 ⟨rfl, rfl⟩) | (go_at_call 135; refine (HQA _ (bD _ _ _)).out.mono ?_; rintro en w1 ⟨rfl, rfl⟩))
   all_goals try (go_quiet (first | (go_at_call 63; exact quiet_nn (HF _ _ _ _).out) | (go_at_call 135; exact quiet_nn (HQA _ (bD _ _ _)).out) | (go_at_call 135; exact quiet_nn (HQC _ (bD _ _ _)).out)); go_wp2_with (first | (go_at_call 63; refine (HF _ _ _ _).out.mono ?_; rintro en w1 ⟨rfl, rfl⟩) | (go_at_call 135; refine (HQA _ (bD _ _ _)).out.mono ?_; rintro en w1 ⟨rfl, rfl⟩)))
   all_goals
     go_ret
     refine ⟨?_, ?_⟩
     · rw [← HNV.out]
       congr 2
       simp [numV, qV, *]
       try (rw [Bool.eq_iff_iff]; simp; done)
     · first | exact bA _ _ | exact bD _ _ _
set_option maxRecDepth 100000 in
theorem numbers_k20 (w : World) (g : Nat) (q : PlV) (P : Pl) (ra : Option Addr) (rl rc i : Nat) (x : Ac) (h : Ck w g q P ra rl rc i) (hx : x.k = 20) :
   Calls Try.prog 102 #[.pointer (some ⟨g, 0, none⟩), x.val] w fun en w' => en = .returned (.bool (numV P x)) ∧ Below w.heap.size w w' := by
 obtain ⟨k, a, b, c, d, n⟩ := x
 simp only at hx
 subst hx
 obtain ⟨hk, e1, e2, e3, hs, l1, l2, l3⟩ := h
 obtain ⟨ga, va, ta, oa, ma, gl, gc, vl, vc, tl, tc, ol, oc, ml, mc⟩ := q
 simp only at e1 e2 e3 hs
 subst e1 e2 e3
 have HQ0 := fun (W : World) (y : Int) (hb : Below w.heap.size w W) => hide ((queue_i W g _ ra rl rc i y (hk.below hb hk.lt) l1).mono (fun en w' hh => (⟨hh.1, hh.2.symm⟩ : en = .returned (.bool (fromV y 0 ((P.gh.length : Int) - 1))) ∧ w' = W)))
 have HF := fun (W : World) (y lo hi : Int) => hide ((from_i W y lo hi).mono (fun en w' hh => (⟨hh.1, hh.2.symm⟩ : en = .returned (.bool (fromV y lo hi)) ∧ w' = W)))
 obtain ⟨nv, hnv⟩ : ∃ nv, numV P ⟨20, a, b, c, d, n⟩ = nv := ⟨_, rfl⟩
 rw [hnv]
 have HNV := hide hnv
 clear hnv
 have HQA := fun (W : World) (hb : Below w.heap.size w W) => HQ0 W a hb
 have HQC := fun (W : World) (hb : Below w.heap.size w W) => HQ0 W c hb
 clear HQ0
 unfold maxLen at l1 l2 l3
 simp only [Ac.val]
 have hlt := hk.lt
 obtain ⟨ce0, ce1, ce2⟩ := ck_cells hk (.cells #[.int .i64 20, .int .i64 a, .int .i64 b, .int .i64 c, .int .i64 d, .int .i64 n] 49)
 have u1 := IntWalk.i64_in ((P.gh.length : Int) - 1) (by omega)
 have u2 := IntWalk.i64_in ((P.vs.length : Int) - 1) (by omega)
 have u3 := IntWalk.i64_in ((P.ts.length : Int) - 1) (by omega)
 go_enter Try.func102, Try.ntmps102
 go_wp2_with fail
 by_cases hc : c = 0
 case' pos => subst hc
 case' neg =>
   have hc1 : (c == 0) = false := by simp [hc]
   have hc2 : decide (c = 0) = false := by simp [hc]
 all_goals
   go_quiet (fail)
   go_wp2_with (first | (go_at_call 63; refine (HF _ _ _ _).out.mono ?_; rintro en w1 ⟨rfl, rfl⟩) | (go_at_call 135; refine (HQA _ (bD _ _ _)).out.mono ?_; rintro en w1 ⟨rfl, rfl⟩))
   all_goals try (go_quiet (first | (go_at_call 63; exact quiet_nn (HF _ _ _ _).out) | (go_at_call 135; exact quiet_nn (HQA _ (bD _ _ _)).out) | (go_at_call 135; exact quiet_nn (HQC _ (bD _ _ _)).out)); go_wp2_with (first | (go_at_call 63; refine (HF _ _ _ _).out.mono ?_; rintro en w1 ⟨rfl, rfl⟩) | (go_at_call 135; refine (HQA _ (bD _ _ _)).out.mono ?_; rintro en w1 ⟨rfl, rfl⟩)))
   all_goals
     go_ret
     refine ⟨?_, ?_⟩
     · rw [← HNV.out]
       congr 2
       simp [numV, qV, *]
       try (rw [Bool.eq_iff_iff]; simp; done)
     · first | exact bA _ _ | exact bD _ _ _
set_option maxRecDepth 100000 in
theorem numbers_k22 (w : World) (g : Nat) (q : PlV) (P : Pl) (ra : Option Addr) (rl rc i : Nat) (x : Ac) (h : Ck w g q P ra rl rc i) (hx : x.k = 22) :
   Calls Try.prog 102 #[.pointer (some ⟨g, 0, none⟩), x.val] w fun en w' => en = .returned (.bool (numV P x)) ∧ Below w.heap.size w w' := by
 obtain ⟨k, a, b, c, d, n⟩ := x
 simp only at hx
 subst hx
 obtain ⟨hk, e1, e2, e3, hs, l1, l2, l3⟩ := h
 obtain ⟨ga, va, ta, oa, ma, gl, gc, vl, vc, tl, tc, ol, oc, ml, mc⟩ := q
 simp only at e1 e2 e3 hs
 subst e1 e2 e3
 have HQ0 := fun (W : World) (y : Int) (hb : Below w.heap.size w W) => hide ((queue_i W g _ ra rl rc i y (hk.below hb hk.lt) l1).mono (fun en w' hh => (⟨hh.1, hh.2.symm⟩ : en = .returned (.bool (fromV y 0 ((P.gh.length : Int) - 1))) ∧ w' = W)))
 have HF := fun (W : World) (y lo hi : Int) => hide ((from_i W y lo hi).mono (fun en w' hh => (⟨hh.1, hh.2.symm⟩ : en = .returned (.bool (fromV y lo hi)) ∧ w' = W)))
 obtain ⟨nv, hnv⟩ : ∃ nv, numV P ⟨22, a, b, c, d, n⟩ = nv := ⟨_, rfl⟩
 rw [hnv]
 have HNV := hide hnv
 clear hnv
 have HQA := fun (W : World) (hb : Below w.heap.size w W) => HQ0 W a hb
 have HQC := fun (W : World) (hb : Below w.heap.size w W) => HQ0 W c hb
 clear HQ0
 unfold maxLen at l1 l2 l3
 simp only [Ac.val]
 have hlt := hk.lt
 obtain ⟨ce0, ce1, ce2⟩ := ck_cells hk (.cells #[.int .i64 22, .int .i64 a, .int .i64 b, .int .i64 c, .int .i64 d, .int .i64 n] 49)
 have u1 := IntWalk.i64_in ((P.gh.length : Int) - 1) (by omega)
 have u2 := IntWalk.i64_in ((P.vs.length : Int) - 1) (by omega)
 have u3 := IntWalk.i64_in ((P.ts.length : Int) - 1) (by omega)
 go_enter Try.func102, Try.ntmps102
 go_wp2_with fail
 by_cases hc : c = 0
 case' pos => subst hc
 case' neg =>
   have hc1 : (c == 0) = false := by simp [hc]
   have hc2 : decide (c = 0) = false := by simp [hc]
 all_goals
   go_quiet (fail)
   go_wp2_with (first | (go_at_call 63; refine (HF _ _ _ _).out.mono ?_; rintro en w1 ⟨rfl, rfl⟩) | (go_at_call 135; refine (HQA _ (bD _ _ _)).out.mono ?_; rintro en w1 ⟨rfl, rfl⟩))
   all_goals try (go_quiet (first | (go_at_call 63; exact quiet_nn (HF _ _ _ _).out) | (go_at_call 135; exact quiet_nn (HQA _ (bD _ _ _)).out) | (go_at_call 135; exact quiet_nn (HQC _ (bD _ _ _)).out)); go_wp2_with (first | (go_at_call 63; refine (HF _ _ _ _).out.mono ?_; rintro en w1 ⟨rfl, rfl⟩) | (go_at_call 135; refine (HQA _ (bD _ _ _)).out.mono ?_; rintro en w1 ⟨rfl, rfl⟩)))
   all_goals
     go_ret
     refine ⟨?_, ?_⟩
     · rw [← HNV.out]
       congr 2
       simp [numV, qV, *]
       try (rw [Bool.eq_iff_iff]; simp; done)
     · first | exact bA _ _ | exact bD _ _ _
set_option maxRecDepth 100000 in
theorem numbers_k24 (w : World) (g : Nat) (q : PlV) (P : Pl) (ra : Option Addr) (rl rc i : Nat) (x : Ac) (h : Ck w g q P ra rl rc i) (hx : x.k = 24) :
   Calls Try.prog 102 #[.pointer (some ⟨g, 0, none⟩), x.val] w fun en w' => en = .returned (.bool (numV P x)) ∧ Below w.heap.size w w' := by
 obtain ⟨k, a, b, c, d, n⟩ := x
 simp only at hx
 subst hx
 obtain ⟨hk, e1, e2, e3, hs, l1, l2, l3⟩ := h
 obtain ⟨ga, va, ta, oa, ma, gl, gc, vl, vc, tl, tc, ol, oc, ml, mc⟩ := q
 simp only at e1 e2 e3 hs
 subst e1 e2 e3
 have HQ0 := fun (W : World) (y : Int) (hb : Below w.heap.size w W) => hide ((queue_i W g _ ra rl rc i y (hk.below hb hk.lt) l1).mono (fun en w' hh => (⟨hh.1, hh.2.symm⟩ : en = .returned (.bool (fromV y 0 ((P.gh.length : Int) - 1))) ∧ w' = W)))
 have HF := fun (W : World) (y lo hi : Int) => hide ((from_i W y lo hi).mono (fun en w' hh => (⟨hh.1, hh.2.symm⟩ : en = .returned (.bool (fromV y lo hi)) ∧ w' = W)))
 obtain ⟨nv, hnv⟩ : ∃ nv, numV P ⟨24, a, b, c, d, n⟩ = nv := ⟨_, rfl⟩
 rw [hnv]
 have HNV := hide hnv
 clear hnv
 have HQA := fun (W : World) (hb : Below w.heap.size w W) => HQ0 W a hb
 have HQC := fun (W : World) (hb : Below w.heap.size w W) => HQ0 W c hb
 clear HQ0
 unfold maxLen at l1 l2 l3
 simp only [Ac.val]
 have hlt := hk.lt
 obtain ⟨ce0, ce1, ce2⟩ := ck_cells hk (.cells #[.int .i64 24, .int .i64 a, .int .i64 b, .int .i64 c, .int .i64 d, .int .i64 n] 49)
 have u1 := IntWalk.i64_in ((P.gh.length : Int) - 1) (by omega)
 have u2 := IntWalk.i64_in ((P.vs.length : Int) - 1) (by omega)
 have u3 := IntWalk.i64_in ((P.ts.length : Int) - 1) (by omega)
 go_enter Try.func102, Try.ntmps102
 go_wp2_with fail
 by_cases hc : c = 0
 case' pos => subst hc
 case' neg =>
   have hc1 : (c == 0) = false := by simp [hc]
   have hc2 : decide (c = 0) = false := by simp [hc]
 all_goals
   go_quiet (fail)
   go_wp2_with (first | (go_at_call 63; refine (HF _ _ _ _).out.mono ?_; rintro en w1 ⟨rfl, rfl⟩) | (go_at_call 135; refine (HQA _ (bD _ _ _)).out.mono ?_; rintro en w1 ⟨rfl, rfl⟩))
   all_goals try (go_quiet (first | (go_at_call 63; exact quiet_nn (HF _ _ _ _).out) | (go_at_call 135; exact quiet_nn (HQA _ (bD _ _ _)).out) | (go_at_call 135; exact quiet_nn (HQC _ (bD _ _ _)).out)); go_wp2_with (first | (go_at_call 63; refine (HF _ _ _ _).out.mono ?_; rintro en w1 ⟨rfl, rfl⟩) | (go_at_call 135; refine (HQA _ (bD _ _ _)).out.mono ?_; rintro en w1 ⟨rfl, rfl⟩)))
   all_goals
     go_ret
     refine ⟨?_, ?_⟩
     · rw [← HNV.out]
       congr 2
       simp [numV, qV, *]
       try (rw [Bool.eq_iff_iff]; simp; done)
     · first | exact bA _ _ | exact bD _ _ _
set_option maxRecDepth 100000 in
theorem numbers_k6 (w : World) (g : Nat) (q : PlV) (P : Pl) (ra : Option Addr) (rl rc i : Nat) (x : Ac) (h : Ck w g q P ra rl rc i) (hx : x.k = 6) :
   Calls Try.prog 102 #[.pointer (some ⟨g, 0, none⟩), x.val] w fun en w' => en = .returned (.bool (numV P x)) ∧ Below w.heap.size w w' := by
 obtain ⟨k, a, b, c, d, n⟩ := x
 simp only at hx
 subst hx
 obtain ⟨hk, e1, e2, e3, hs, l1, l2, l3⟩ := h
 obtain ⟨ga, va, ta, oa, ma, gl, gc, vl, vc, tl, tc, ol, oc, ml, mc⟩ := q
 simp only at e1 e2 e3 hs
 subst e1 e2 e3
 have HQ0 := fun (W : World) (y : Int) (hb : Below w.heap.size w W) => hide ((queue_i W g _ ra rl rc i y (hk.below hb hk.lt) l1).mono (fun en w' hh => (⟨hh.1, hh.2.symm⟩ : en = .returned (.bool (fromV y 0 ((P.gh.length : Int) - 1))) ∧ w' = W)))
 have HF := fun (W : World) (y lo hi : Int) => hide ((from_i W y lo hi).mono (fun en w' hh => (⟨hh.1, hh.2.symm⟩ : en = .returned (.bool (fromV y lo hi)) ∧ w' = W)))
 obtain ⟨nv, hnv⟩ : ∃ nv, numV P ⟨6, a, b, c, d, n⟩ = nv := ⟨_, rfl⟩
 rw [hnv]
 have HNV := hide hnv
 clear hnv
 have HQA := fun (W : World) (hb : Below w.heap.size w W) => HQ0 W a hb
 have HQC := fun (W : World) (hb : Below w.heap.size w W) => HQ0 W c hb
 clear HQ0
 unfold maxLen at l1 l2 l3
 simp only [Ac.val]
 have hlt := hk.lt
 obtain ⟨ce0, ce1, ce2⟩ := ck_cells hk (.cells #[.int .i64 6, .int .i64 a, .int .i64 b, .int .i64 c, .int .i64 d, .int .i64 n] 49)
 have u1 := IntWalk.i64_in ((P.gh.length : Int) - 1) (by omega)
 have u2 := IntWalk.i64_in ((P.vs.length : Int) - 1) (by omega)
 have u3 := IntWalk.i64_in ((P.ts.length : Int) - 1) (by omega)
 go_enter Try.func102, Try.ntmps102
 go_wp2_with fail
 by_cases hc : c = 0
 case' pos => subst hc
 case' neg =>
   have hc1 : (c == 0) = false := by simp [hc]
   have hc2 : decide (c = 0) = false := by simp [hc]
 all_goals
   go_quiet (fail)
   go_wp2_with (first | (go_at_call 63; refine (HF _ _ _ _).out.mono ?_; rintro en w1 ⟨rfl, rfl⟩) | (go_at_call 135; refine (HQA _ (bD _ _ _)).out.mono ?_; rintro en w1 ⟨rfl, rfl⟩))
   all_goals try (go_quiet (first | (go_at_call 63; exact quiet_nn (HF _ _ _ _).out) | (go_at_call 135; exact quiet_nn (HQA _ (bD _ _ _)).out) | (go_at_call 135; exact quiet_nn (HQC _ (bD _ _ _)).out)); go_wp2_with (first | (go_at_call 63; refine (HF _ _ _ _).out.mono ?_; rintro en w1 ⟨rfl, rfl⟩) | (go_at_call 135; refine (HQA _ (bD _ _ _)).out.mono ?_; rintro en w1 ⟨rfl, rfl⟩)))
   all_goals try (go_quiet (first | (go_at_call 63; exact quiet_nn (HF _ _ _ _).out) | (go_at_call 135; exact quiet_nn (HQA _ (bD _ _ _)).out) | (go_at_call 135; exact quiet_nn (HQC _ (bD _ _ _)).out)); go_wp2_with (first | (go_at_call 63; refine (HF _ _ _ _).out.mono ?_; rintro en w1 ⟨rfl, rfl⟩) | (go_at_call 135; refine (HQA _ (bD _ _ _)).out.mono ?_; rintro en w1 ⟨rfl, rfl⟩)))
   all_goals
     go_ret
     refine ⟨?_, ?_⟩
     · rw [← HNV.out]
       congr 2
       simp [numV, qV, *]
       try (rw [Bool.eq_iff_iff]; simp; done)
     · first | exact bA _ _ | exact bD _ _ _
set_option maxRecDepth 100000 in
theorem numbers_k9 (w : World) (g : Nat) (q : PlV) (P : Pl) (ra : Option Addr) (rl rc i : Nat) (x : Ac) (h : Ck w g q P ra rl rc i) (hx : x.k = 9) :
   Calls Try.prog 102 #[.pointer (some ⟨g, 0, none⟩), x.val] w fun en w' => en = .returned (.bool (numV P x)) ∧ Below w.heap.size w w' := by
 obtain ⟨k, a, b, c, d, n⟩ := x
 simp only at hx
 subst hx
 obtain ⟨hk, e1, e2, e3, hs, l1, l2, l3⟩ := h
 obtain ⟨ga, va, ta, oa, ma, gl, gc, vl, vc, tl, tc, ol, oc, ml, mc⟩ := q
 simp only at e1 e2 e3 hs
 subst e1 e2 e3
 have HQ0 := fun (W : World) (y : Int) (hb : Below w.heap.size w W) => hide ((queue_i W g _ ra rl rc i y (hk.below hb hk.lt) l1).mono (fun en w' hh => (⟨hh.1, hh.2.symm⟩ : en = .returned (.bool (fromV y 0 ((P.gh.length : Int) - 1))) ∧ w' = W)))
 have HF := fun (W : World) (y lo hi : Int) => hide ((from_i W y lo hi).mono (fun en w' hh => (⟨hh.1, hh.2.symm⟩ : en = .returned (.bool (fromV y lo hi)) ∧ w' = W)))
 obtain ⟨nv, hnv⟩ : ∃ nv, numV P ⟨9, a, b, c, d, n⟩ = nv := ⟨_, rfl⟩
 rw [hnv]
 have HNV := hide hnv
 clear hnv
 have HQA := fun (W : World) (hb : Below w.heap.size w W) => HQ0 W a hb
 have HQC := fun (W : World) (hb : Below w.heap.size w W) => HQ0 W c hb
 clear HQ0
 unfold maxLen at l1 l2 l3
 simp only [Ac.val]
 have hlt := hk.lt
 obtain ⟨ce0, ce1, ce2⟩ := ck_cells hk (.cells #[.int .i64 9, .int .i64 a, .int .i64 b, .int .i64 c, .int .i64 d, .int .i64 n] 49)
 have u1 := IntWalk.i64_in ((P.gh.length : Int) - 1) (by omega)
 have u2 := IntWalk.i64_in ((P.vs.length : Int) - 1) (by omega)
 have u3 := IntWalk.i64_in ((P.ts.length : Int) - 1) (by omega)
 go_enter Try.func102, Try.ntmps102
 go_wp2_with fail
 by_cases hc : c = 0
 case' pos => subst hc
 case' neg =>
   have hc1 : (c == 0) = false := by simp [hc]
   have hc2 : decide (c = 0) = false := by simp [hc]
 all_goals
   go_quiet (fail)
   go_wp2_with (first | (go_at_call 63; refine (HF _ _ _ _).out.mono ?_; rintro en w1 ⟨rfl, rfl⟩) | (go_at_call 135; refine (HQA _ (bD _ _ _)).out.mono ?_; rintro en w1 ⟨rfl, rfl⟩))
   all_goals try (go_quiet (first | (go_at_call 63; exact quiet_nn (HF _ _ _ _).out) | (go_at_call 135; exact quiet_nn (HQA _ (bD _ _ _)).out) | (go_at_call 135; exact quiet_nn (HQC _ (bD _ _ _)).out)); go_wp2_with (first | (go_at_call 63; refine (HF _ _ _ _).out.mono ?_; rintro en w1 ⟨rfl, rfl⟩) | (go_at_call 135; refine (HQA _ (bD _ _ _)).out.mono ?_; rintro en w1 ⟨rfl, rfl⟩)))
   all_goals try (go_quiet (first | (go_at_call 63; exact quiet_nn (HF _ _ _ _).out) | (go_at_call 135; exact quiet_nn (HQA _ (bD _ _ _)).out) | (go_at_call 135; exact quiet_nn (HQC _ (bD _ _ _)).out)); go_wp2_with (first | (go_at_call 63; refine (HF _ _ _ _).out.mono ?_; rintro en w1 ⟨rfl, rfl⟩) | (go_at_call 135; refine (HQA _ (bD _ _ _)).out.mono ?_; rintro en w1 ⟨rfl, rfl⟩)))
   all_goals
     go_ret
     refine ⟨?_, ?_⟩
     · rw [← HNV.out]
       congr 2
       simp [numV, qV, *]
       try (rw [Bool.eq_iff_iff]; simp; done)
     · first | exact bA _ _ | exact bD _ _ _
set_option maxRecDepth 100000 in
theorem numbers_k10 (w : World) (g : Nat) (q : PlV) (P : Pl) (ra : Option Addr) (rl rc i : Nat) (x : Ac) (h : Ck w g q P ra rl rc i) (hx : x.k = 10) :
   Calls Try.prog 102 #[.pointer (some ⟨g, 0, none⟩), x.val] w fun en w' => en = .returned (.bool (numV P x)) ∧ Below w.heap.size w w' := by
 obtain ⟨k, a, b, c, d, n⟩ := x
 simp only at hx
 subst hx
 obtain ⟨hk, e1, e2, e3, hs, l1, l2, l3⟩ := h
 obtain ⟨ga, va, ta, oa, ma, gl, gc, vl, vc, tl, tc, ol, oc, ml, mc⟩ := q
 simp only at e1 e2 e3 hs
 subst e1 e2 e3
 have HQ0 := fun (W : World) (y : Int) (hb : Below w.heap.size w W) => hide ((queue_i W g _ ra rl rc i y (hk.below hb hk.lt) l1).mono (fun en w' hh => (⟨hh.1, hh.2.symm⟩ : en = .returned (.bool (fromV y 0 ((P.gh.length : Int) - 1))) ∧ w' = W)))
 have HF := fun (W : World) (y lo hi : Int) => hide ((from_i W y lo hi).mono (fun en w' hh => (⟨hh.1, hh.2.symm⟩ : en = .returned (.bool (fromV y lo hi)) ∧ w' = W)))
 obtain ⟨nv, hnv⟩ : ∃ nv, numV P ⟨10, a, b, c, d, n⟩ = nv := ⟨_, rfl⟩
 rw [hnv]
 have HNV := hide hnv
 clear hnv
 have HQA := fun (W : World) (hb : Below w.heap.size w W) => HQ0 W a hb
 have HQC := fun (W : World) (hb : Below w.heap.size w W) => HQ0 W c hb
 clear HQ0
 unfold maxLen at l1 l2 l3
 simp only [Ac.val]
 have hlt := hk.lt
 obtain ⟨ce0, ce1, ce2⟩ := ck_cells hk (.cells #[.int .i64 10, .int .i64 a, .int .i64 b, .int .i64 c, .int .i64 d, .int .i64 n] 49)
 have u1 := IntWalk.i64_in ((P.gh.length : Int) - 1) (by omega)
 have u2 := IntWalk.i64_in ((P.vs.length : Int) - 1) (by omega)
 have u3 := IntWalk.i64_in ((P.ts.length : Int) - 1) (by omega)
 go_enter Try.func102, Try.ntmps102
 go_wp2_with fail
 by_cases hc : c = 0
 case' pos => subst hc
 case' neg =>
   have hc1 : (c == 0) = false := by simp [hc]
   have hc2 : decide (c = 0) = false := by simp [hc]
 all_goals
   go_quiet (fail)
   go_wp2_with (first | (go_at_call 63; refine (HF _ _ _ _).out.mono ?_; rintro en w1 ⟨rfl, rfl⟩) | (go_at_call 135; refine (HQA _ (bD _ _ _)).out.mono ?_; rintro en w1 ⟨rfl, rfl⟩))
   all_goals try (go_quiet (first | (go_at_call 63; exact quiet_nn (HF _ _ _ _).out) | (go_at_call 135; exact quiet_nn (HQA _ (bD _ _ _)).out) | (go_at_call 135; exact quiet_nn (HQC _ (bD _ _ _)).out)); go_wp2_with (first | (go_at_call 63; refine (HF _ _ _ _).out.mono ?_; rintro en w1 ⟨rfl, rfl⟩) | (go_at_call 135; refine (HQA _ (bD _ _ _)).out.mono ?_; rintro en w1 ⟨rfl, rfl⟩)))
   all_goals try (go_quiet (first | (go_at_call 63; exact quiet_nn (HF _ _ _ _).out) | (go_at_call 135; exact quiet_nn (HQA _ (bD _ _ _)).out) | (go_at_call 135; exact quiet_nn (HQC _ (bD _ _ _)).out)); go_wp2_with (first | (go_at_call 63; refine (HF _ _ _ _).out.mono ?_; rintro en w1 ⟨rfl, rfl⟩) | (go_at_call 135; refine (HQA _ (bD _ _ _)).out.mono ?_; rintro en w1 ⟨rfl, rfl⟩)))
   all_goals
     go_ret
     refine ⟨?_, ?_⟩
     · rw [← HNV.out]
       congr 2
       simp [numV, qV, *]
       try (rw [Bool.eq_iff_iff]; simp; done)
     · first | exact bA _ _ | exact bD _ _ _
set_option maxRecDepth 100000 in
theorem numbers_k18 (w : World) (g : Nat) (q : PlV) (P : Pl) (ra : Option Addr) (rl rc i : Nat) (x : Ac) (h : Ck w g q P ra rl rc i) (hx : x.k = 18) :
   Calls Try.prog 102 #[.pointer (some ⟨g, 0, none⟩), x.val] w fun en w' => en = .returned (.bool (numV P x)) ∧ Below w.heap.size w w' := by
 obtain ⟨k, a, b, c, d, n⟩ := x
 simp only at hx
 subst hx
 obtain ⟨hk, e1, e2, e3, hs, l1, l2, l3⟩ := h
 obtain ⟨ga, va, ta, oa, ma, gl, gc, vl, vc, tl, tc, ol, oc, ml, mc⟩ := q
 simp only at e1 e2 e3 hs
 subst e1 e2 e3
 have HQ0 := fun (W : World) (y : Int) (hb : Below w.heap.size w W) => hide ((queue_i W g _ ra rl rc i y (hk.below hb hk.lt) l1).mono (fun en w' hh => (⟨hh.1, hh.2.symm⟩ : en = .returned (.bool (fromV y 0 ((P.gh.length : Int) - 1))) ∧ w' = W)))
 have HF := fun (W : World) (y lo hi : Int) => hide ((from_i W y lo hi).mono (fun en w' hh => (⟨hh.1, hh.2.symm⟩ : en = .returned (.bool (fromV y lo hi)) ∧ w' = W)))
 obtain ⟨nv, hnv⟩ : ∃ nv, numV P ⟨18, a, b, c, d, n⟩ = nv := ⟨_, rfl⟩
 rw [hnv]
 have HNV := hide hnv
 clear hnv
 have HQA := fun (W : World) (hb : Below w.heap.size w W) => HQ0 W a hb
 have HQC := fun (W : World) (hb : Below w.heap.size w W) => HQ0 W c hb
 clear HQ0
 unfold maxLen at l1 l2 l3
 simp only [Ac.val]
 have hlt := hk.lt
 obtain ⟨ce0, ce1, ce2⟩ := ck_cells hk (.cells #[.int .i64 18, .int .i64 a, .int .i64 b, .int .i64 c, .int .i64 d, .int .i64 n] 49)
 have u1 := IntWalk.i64_in ((P.gh.length : Int) - 1) (by omega)
 have u2 := IntWalk.i64_in ((P.vs.length : Int) - 1) (by omega)
 have u3 := IntWalk.i64_in ((P.ts.length : Int) - 1) (by omega)
 go_enter Try.func102, Try.ntmps102
 go_wp2_with fail
 by_cases hc : c = 0
 case' pos => subst hc
 case' neg =>
   have hc1 : (c == 0) = false := by simp [hc]
   have hc2 : decide (c = 0) = false := by simp [hc]
 all_goals
   go_quiet (fail)
   go_wp2_with (first | (go_at_call 63; refine (HF _ _ _ _).out.mono ?_; rintro en w1 ⟨rfl, rfl⟩) | (go_at_call 135; refine (HQA _ (bD _ _ _)).out.mono ?_; rintro en w1 ⟨rfl, rfl⟩))
   all_goals try (go_quiet (first | (go_at_call 63; exact quiet_nn (HF _ _ _ _).out) | (go_at_call 135; exact quiet_nn (HQA _ (bD _ _ _)).out) | (go_at_call 135; exact quiet_nn (HQC _ (bD _ _ _)).out)); go_wp2_with (first | (go_at_call 63; refine (HF _ _ _ _).out.mono ?_; rintro en w1 ⟨rfl, rfl⟩) | (go_at_call 135; refine (HQA _ (bD _ _ _)).out.mono ?_; rintro en w1 ⟨rfl, rfl⟩)))
   all_goals try (go_quiet (first | (go_at_call 63; exact quiet_nn (HF _ _ _ _).out) | (go_at_call 135; exact quiet_nn (HQA _ (bD _ _ _)).out) | (go_at_call 135; exact quiet_nn (HQC _ (bD _ _ _)).out)); go_wp2_with (first | (go_at_call 63; refine (HF _ _ _ _).out.mono ?_; rintro en w1 ⟨rfl, rfl⟩) | (go_at_call 135; refine (HQA _ (bD _ _ _)).out.mono ?_; rintro en w1 ⟨rfl, rfl⟩)))
   all_goals
     go_ret
     refine ⟨?_, ?_⟩
     · rw [← HNV.out]
       congr 2
       simp [numV, qV, *]
       try (rw [Bool.eq_iff_iff]; simp; done)
     · first | exact bA _ _ | exact bD _ _ _
end Go.Proofs.Ytdpokdcendgfeaa
