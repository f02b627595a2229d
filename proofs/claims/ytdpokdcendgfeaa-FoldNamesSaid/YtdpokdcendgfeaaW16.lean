/- Several texts in one: The walk of rule.Twin. Conditions: those of each. -/
import Derived.Test.YtdpokdcendgfeaaW15
set_option linter.unusedSimpArgs false
set_option linter.unusedVariables false
set_option maxHeartbeats 80000000
namespace Go.Proofs.Ytdpokdcendgfeaa
open Go.RowKit
attribute [local go_sem] par parUpon
set_option maxRecDepth 100000 in
theorem twin_i (P : Pl) (w : World) (q : PlV) (rs : List (Option Addr × Nat)) (h : PlMem w q P rs) (k1 : P.gh.length ≤ 16) (k2 : P.vs.length ≤ 16) (k3 : P.ts.length ≤ 4) (k4 : P.on.length ≤ 16) (k5 : ∀ l ∈ P.on ++ [P.ms], l.length ≤ 131072) :
   Calls Try.prog 60 #[q.val] w fun en w' => ∃ (g v t o m : Value) (us : List Value), en = .returned (.agg #[g, v, t, o, m]) ∧ w'.ownsRow w.heap.size 4 1 g P.gh.length (bools P.gh) ∧ w'.ownsRow w.heap.size 51 3 v P.vs.length (vrs P.vs) ∧ w'.ownsRow w.heap.size 3 1 t P.ts.length (ints P.ts) ∧
     w'.ownsRow w.heap.size 26 1 o P.on.length us ∧ (∀ (i : Nat) (l : List Ac), P.on[i]? = some l → ∃ u, us[i]? = some u ∧ w'.ownsRow w.heap.size 49 6 u l.length (acs l)) ∧ w'.ownsRow w.heap.size 49 6 m P.ms.length (acs P.ms) ∧ Below w.heap.size w w' := by
 have HRES := hide (show Try.f60.results = #[.cell 2 28] by kernel_rfl)
 have HM0 := hide h
 obtain ⟨e1, e2, e3, e4, e5, _, _, _, _, _, _⟩ := h
 obtain ⟨ga, va, ta, oa, ma, gl, gc, vl, vc, tl, tc, ol, oc, ml, mc⟩ := q
 simp only at e1 e2 e3 e4 e5
 subst e1 e2 e3 e4 e5
 simp only [PlV.val]
 have hbx := Blk.new w 28 #[.slice ga P.gh.length gc, .slice va P.vs.length vc, .slice ta P.ts.length tc, .slice oa P.on.length oc, .slice ma P.ms.length mc]
 go_enter Try.func60, Try.ntmps60
 have hb0 := ((Below.refl w.heap.size w).alloc (Nat.le_refl _) (.cells #[.slice ga P.gh.length gc, .slice va P.vs.length vc, .slice ta P.ts.length tc, .slice oa P.on.length oc, .slice ma P.ms.length mc] 28)).alloc (by simp) (.cells #[.slice none 0 0, .slice none 0 0, .slice none 0 0, .slice none 0 0, .slice none 0 0] 28)
 have hbk := hbx.alloc (.cells #[.slice none 0 0, .slice none 0 0, .slice none 0 0, .slice none 0 0, .slice none 0 0] 28)
 go_upto_region 1 with fail
 have HB1 := hide hb0
 have HK1 := hide hbk
 have hsz1 : ((w.alloc (.cells #[.slice ga P.gh.length gc, .slice va P.vs.length vc, .slice ta P.ts.length tc, .slice oa P.on.length oc, .slice ma P.ms.length mc] 28)).alloc (.cells #[.slice none 0 0, .slice none 0 0, .slice none 0 0, .slice none 0 0, .slice none 0 0] 28)).heap.size = w.heap.size + 2 := by simp
 have hkr := Blk.new (w.alloc (.cells #[.slice ga P.gh.length gc, .slice va P.vs.length vc, .slice ta P.ts.length tc, .slice oa P.on.length oc, .slice ma P.ms.length mc] 28)) 28 #[.slice none 0 0, .slice none 0 0, .slice none 0 0, .slice none 0 0, .slice none 0 0]
 have hs9 : (w.alloc (.cells #[.slice ga P.gh.length gc, .slice va P.vs.length vc, .slice ta P.ts.length tc, .slice oa P.on.length oc, .slice ma P.ms.length mc] 28)).heap.size = w.heap.size + 1 := by simp
 rw [hs9] at hkr
 have HKR := hide hkr
 clear hb0 hbk hbx hs9 hkr
 generalize ((w.alloc (.cells #[.slice ga P.gh.length gc, .slice va P.vs.length vc, .slice ta P.ts.length tc, .slice oa P.on.length oc, .slice ma P.ms.length mc] 28)).alloc (.cells #[.slice none 0 0, .slice none 0 0, .slice none 0 0, .slice none 0 0, .slice none 0 0] 28)) = W1 at HB1 HK1 hsz1 HKR
 have HM := hide (HM0.out.below HB1.out)
 have hrl := HM.out.e.1
 simp only [List.length_append, List.length_cons, List.length_nil] at hrl
 have hrl2 : rs.length = P.on.length := by omega
 have HSM := hide ((HM.out.e.2 P.on.length ma mc P.ms (by rw [← hrl2]; simp) (by simp)).1)
 have hms : P.ms.length ≤ 131072 := k5 _ (by simp)
 have b0 : W1.cell? ⟨w.heap.size, 0, none⟩ = some (.slice ga P.gh.length gc) := HK1.out.cell 0
 have b1 : W1.cell? ⟨w.heap.size, 1, none⟩ = some (.slice va P.vs.length vc) := HK1.out.cell 1
 have b2 : W1.cell? ⟨w.heap.size, 2, none⟩ = some (.slice ta P.ts.length tc) := HK1.out.cell 2
 have b3 : W1.cell? ⟨w.heap.size, 3, none⟩ = some (.slice oa P.on.length oc) := HK1.out.cell 3
 have b4 : W1.cell? ⟨w.heap.size, 4, none⟩ = some (.slice ma P.ms.length mc) := HK1.out.cell 4
 have hpl : w.heap.size < W1.heap.size := by omega
 have HPL := hide hpl
 go_cut [3] from 6 to 18 (fun s3 wx => ∃ g v t m qb, s3 = .pointer (some ⟨qb, 0, none⟩) ∧ Blk wx qb 28 #[g, v, t, .slice none 0 0, m] ∧ W1.heap.size ≤ qb ∧ wx.ownsRow W1.heap.size 4 1 g P.gh.length (bools P.gh) ∧ wx.ownsRow W1.heap.size 51 3 v P.vs.length (vrs P.vs) ∧ wx.ownsRow W1.heap.size 3 1 t P.ts.length (ints P.ts) ∧ wx.ownsRow W1.heap.size 49 6 m P.ms.length (acs P.ms) ∧ Below W1.heap.size W1 wx)
 case first =>
   clear hpl hsz1
   have hpl : w.heap.size < W1.heap.size := HPL.out
   refine wp_region_par (J1 W1 P w.heap.size (.slice ga P.gh.length gc) (.slice va P.vs.length vc) (.slice ta P.ts.length tc) (.slice ma P.ms.length mc)) [[], [0], [0, 1], [], [3], [0, 1, 2, 3, 4], [], [6], [0, 1, 2, 3, 4, 5, 6, 7], [], [9], [0, 1, 2, 3, 4, 5, 6, 7, 8, 9, 10], [0, 1, 2, 3, 4, 5, 6, 7, 8, 9, 10, 11], [], [0, 1, 2, 3, 4, 5, 6, 7, 8, 9, 10, 11, 12, 13]] (by kernel_rfl) (by kernel_rfl) (fun vs => J1.start W1 P _ _ _ _ _ vs) (fun vs => ?_)
   refine wpPar_step0 rfl (fun S w' hS hA hD hJ R hR => ?_) (fun K hK => ?_)
   · have h14 : S 14 = false := hD 14 (by decide) (by decide)
     go_simp
     exact hR _ _ (hJ.known h14 (by decide) rfl)
   go_simp
   refine hK _ ?_
   clear hK K
   refine wpPar_step0 rfl (fun S w' hS hA hD hJ R hR => ?_) (fun K hK => ?_)
   · have h14 : S 14 = false := hD 14 (by decide) (by decide)
     have k0 : vs 0 = _ := hJ.k 0 _ rfl (hA 0 (by decide))
     have hc := (hJ.b.cell (p := ⟨w.heap.size, 0, none⟩) hpl).trans b0
     simp only [k0]
     go_simp
     exact hR _ _ (hJ.known h14 (by decide) rfl)
   go_simp
   refine hK _ ?_
   clear hK K
   refine wpPar_step0 rfl (fun S w' hS hA hD hJ R hR => ?_) (fun K hK => ?_)
   · have h14 : S 14 = false := hD 14 (by decide) (by decide)
     have k0 : vs 0 = _ := hJ.k 0 _ rfl (hA 0 (by decide))
     have k1 : vs 1 = _ := hJ.k 1 _ rfl (hA 1 (by decide))
     have h12 : S 12 = false := hD 12 (by decide) (by decide)
     have hc := cloneB_i w' ga P.gh.length gc (bools P.gh) (HM.out.g.below hJ.b) (bools_len _) (bools_one _) (by omega)
     have hfin := hc.mono (fun en w'' hh => show ∃ u, en = .returned u ∧ R u w'' from (by obtain ⟨u, e1, e2, e3⟩ := hh; exact ⟨u, e1, hR _ _ (hJ.c2 h14 h12 e2 e3)⟩))
     refine par_call 96 (.tmp 7) 22 (by rfl) Try.f96 Try.func96 (by decide) (by unfold Try.f96; simp) (.slice ga P.gh.length gc) ?_ hfin
     exact k1
   go_simp
   refine hK _ ?_
   clear hK K
   refine wpPar_step0 rfl (fun S w' hS hA hD hJ R hR => ?_) (fun K hK => ?_)
   · have h14 : S 14 = false := hD 14 (by decide) (by decide)
     go_simp
     exact hR _ _ (hJ.known h14 (by decide) rfl)
   go_simp
   refine hK _ ?_
   clear hK K
   refine wpPar_step0 rfl (fun S w' hS hA hD hJ R hR => ?_) (fun K hK => ?_)
   · have h14 : S 14 = false := hD 14 (by decide) (by decide)
     have k3 : vs 3 = _ := hJ.k 3 _ rfl (hA 3 (by decide))
     have hc := (hJ.b.cell (p := ⟨w.heap.size, 1, none⟩) hpl).trans b1
     simp only [k3]
     go_simp
     exact hR _ _ (hJ.known h14 (by decide) rfl)
   go_simp
   refine hK _ ?_
   clear hK K
   refine wpPar_step0 rfl (fun S w' hS hA hD hJ R hR => ?_) (fun K hK => ?_)
   · have h14 : S 14 = false := hD 14 (by decide) (by decide)
     have k0 : vs 0 = _ := hJ.k 0 _ rfl (hA 0 (by decide))
     have k1 : vs 1 = _ := hJ.k 1 _ rfl (hA 1 (by decide))
     have k3 : vs 3 = _ := hJ.k 3 _ rfl (hA 3 (by decide))
     have k4 : vs 4 = _ := hJ.k 4 _ rfl (hA 4 (by decide))
     have h12 : S 12 = false := hD 12 (by decide) (by decide)
     have hc := cloneV_i w' va P.vs.length vc (vrs P.vs) (HM.out.v.below hJ.b) (vrs_len _) (vrs_one _) (by omega)
     have hfin := hc.mono (fun en w'' hh => show ∃ u, en = .returned u ∧ R u w'' from (by obtain ⟨u, e1, e2, e3⟩ := hh; exact ⟨u, e1, hR _ _ (hJ.c5 h14 h12 e2 e3)⟩))
     refine par_call 97 (.tmp 10) 23 (by rfl) Try.f97 Try.func97 (by decide) (by unfold Try.f97; simp) (.slice va P.vs.length vc) ?_ hfin
     exact k4
   go_simp
   refine hK _ ?_
   clear hK K
   refine wpPar_step0 rfl (fun S w' hS hA hD hJ R hR => ?_) (fun K hK => ?_)
   · have h14 : S 14 = false := hD 14 (by decide) (by decide)
     go_simp
     exact hR _ _ (hJ.known h14 (by decide) rfl)
   go_simp
   refine hK _ ?_
   clear hK K
   refine wpPar_step0 rfl (fun S w' hS hA hD hJ R hR => ?_) (fun K hK => ?_)
   · have h14 : S 14 = false := hD 14 (by decide) (by decide)
     have k6 : vs 6 = _ := hJ.k 6 _ rfl (hA 6 (by decide))
     have hc := (hJ.b.cell (p := ⟨w.heap.size, 2, none⟩) hpl).trans b2
     simp only [k6]
     go_simp
     exact hR _ _ (hJ.known h14 (by decide) rfl)
   go_simp
   refine hK _ ?_
   clear hK K
   refine wpPar_step0 rfl (fun S w' hS hA hD hJ R hR => ?_) (fun K hK => ?_)
   · have h14 : S 14 = false := hD 14 (by decide) (by decide)
     have k0 : vs 0 = _ := hJ.k 0 _ rfl (hA 0 (by decide))
     have k1 : vs 1 = _ := hJ.k 1 _ rfl (hA 1 (by decide))
     have k3 : vs 3 = _ := hJ.k 3 _ rfl (hA 3 (by decide))
     have k4 : vs 4 = _ := hJ.k 4 _ rfl (hA 4 (by decide))
     have k6 : vs 6 = _ := hJ.k 6 _ rfl (hA 6 (by decide))
     have k7 : vs 7 = _ := hJ.k 7 _ rfl (hA 7 (by decide))
     have h12 : S 12 = false := hD 12 (by decide) (by decide)
     have hc := cloneI_i w' ta P.ts.length tc (ints P.ts) (HM.out.t.below hJ.b) (ints_len2 _) (ints_one2 _) (by omega)
     have hfin := hc.mono (fun en w'' hh => show ∃ u, en = .returned u ∧ R u w'' from (by obtain ⟨u, e1, e2, e3⟩ := hh; exact ⟨u, e1, hR _ _ (hJ.c8 h14 h12 e2 e3)⟩))
     refine par_call 98 (.tmp 13) 24 (by rfl) Try.f98 Try.func98 (by decide) (by unfold Try.f98; simp) (.slice ta P.ts.length tc) ?_ hfin
     exact k7
   go_simp
   refine hK _ ?_
   clear hK K
   refine wpPar_step0 rfl (fun S w' hS hA hD hJ R hR => ?_) (fun K hK => ?_)
   · have h14 : S 14 = false := hD 14 (by decide) (by decide)
     go_simp
     exact hR _ _ (hJ.known h14 (by decide) rfl)
   go_simp
   refine hK _ ?_
   clear hK K
   refine wpPar_step0 rfl (fun S w' hS hA hD hJ R hR => ?_) (fun K hK => ?_)
   · have h14 : S 14 = false := hD 14 (by decide) (by decide)
     have k9 : vs 9 = _ := hJ.k 9 _ rfl (hA 9 (by decide))
     have hc := (hJ.b.cell (p := ⟨w.heap.size, 4, none⟩) hpl).trans b4
     simp only [k9]
     go_simp
     exact hR _ _ (hJ.known h14 (by decide) rfl)
   go_simp
   refine hK _ ?_
   clear hK K
   refine wpPar_step0 rfl (fun S w' hS hA hD hJ R hR => ?_) (fun K hK => ?_)
   · have h14 : S 14 = false := hD 14 (by decide) (by decide)
     have k0 : vs 0 = _ := hJ.k 0 _ rfl (hA 0 (by decide))
     have k1 : vs 1 = _ := hJ.k 1 _ rfl (hA 1 (by decide))
     have k3 : vs 3 = _ := hJ.k 3 _ rfl (hA 3 (by decide))
     have k4 : vs 4 = _ := hJ.k 4 _ rfl (hA 4 (by decide))
     have k6 : vs 6 = _ := hJ.k 6 _ rfl (hA 6 (by decide))
     have k7 : vs 7 = _ := hJ.k 7 _ rfl (hA 7 (by decide))
     have k9 : vs 9 = _ := hJ.k 9 _ rfl (hA 9 (by decide))
     have k10 : vs 10 = _ := hJ.k 10 _ rfl (hA 10 (by decide))
     have h12 : S 12 = false := hD 12 (by decide) (by decide)
     have hc := cloneA_i w' ma P.ms.length mc (acs P.ms) (HSM.out.below hJ.b) (acs_len _) (acs_one _) (by omega)
     have hfin := hc.mono (fun en w'' hh => show ∃ u, en = .returned u ∧ R u w'' from (by obtain ⟨u, e1, e2, e3⟩ := hh; exact ⟨u, e1, hR _ _ (hJ.c11 h14 h12 e2 e3)⟩))
     refine par_call 99 (.tmp 16) 26 (by rfl) Try.f99 Try.func99 (by decide) (by unfold Try.f99; simp) (.slice ma P.ms.length mc) ?_ hfin
     exact k10
   go_simp
   refine hK _ ?_
   clear hK K
   refine wpPar_step0 rfl (fun S w' hS hA hD hJ R hR => ?_) (fun K hK => ?_)
   · have h14 : S 14 = false := hD 14 (by decide) (by decide)
     obtain ⟨o2, c2, e2⟩ := own_slice (hJ.s2 (hA 2 (by decide)))
     obtain ⟨o5, c5, e5⟩ := own_slice (hJ.s5 (hA 5 (by decide)))
     obtain ⟨o8, c8, e8⟩ := own_slice (hJ.s8 (hA 8 (by decide)))
     obtain ⟨o11, c11, e11⟩ := own_slice (hJ.s11 (hA 11 (by decide)))
     have hfin := hR _ _ (hJ.c12 h14)
     rw [e2, e5, e8, e11] at hfin
     simp only [e2, e5, e8, e11]
     go_simp
     exact hfin
   go_simp
   refine hK _ ?_
   clear hK K
   refine wpPar_step0 rfl (fun S w' hS hA hD hJ R hR => ?_) (fun K hK => ?_)
   · have h14 : S 14 = false := hD 14 (by decide) (by decide)
     have hfin := hR _ _ (hJ.c13 h14)
     go_simp
     exact hfin
   go_simp
   refine hK _ ?_
   clear hK K
   refine wpPar_step0 rfl (fun S w' hS hA hD hJ R hR => ?_) (fun K hK => ?_)
   · have h14 : S 14 = false := hS
     obtain ⟨o2, c2, e2⟩ := own_slice (hJ.s2 (hA 2 (by decide)))
     obtain ⟨o5, c5, e5⟩ := own_slice (hJ.s5 (hA 5 (by decide)))
     obtain ⟨o8, c8, e8⟩ := own_slice (hJ.s8 (hA 8 (by decide)))
     obtain ⟨o11, c11, e11⟩ := own_slice (hJ.s11 (hA 11 (by decide)))
     have e12 := hJ.s12 (hA 12 (by decide))
     obtain ⟨qb, e13, hq1, hq2, _⟩ := hJ.s13 (hA 13 (by decide))
     obtain ⟨z0, z1, z2, z3, z4, y0, y1, y2, y3, y4⟩ := blk5 (hq2 h14)
     have hfin := hR _ _ (hJ.st (c := undef) h14 ⟨hA 2 (by decide), hA 5 (by decide), hA 8 (by decide), hA 11 (by decide), hA 12 (by decide), hA 13 (by decide)⟩ e13)
     rw [e2, e5, e8, e11] at hfin
     rw [e2, e5, e8, e11] at e12
     clear hq2
     simp only [e12, e13]
     go_simp
     exact hfin
   go_simp
   refine hK _ ?_
   clear hK K
   refine wpPar_nil (fun w7 hJ => ?_)
   obtain ⟨qb, e13, hq1, _, hq2⟩ := hJ.s13 rfl
   have HJ := hide (show ∃ g v t m, Blk w7 qb 28 #[g, v, t, .slice none 0 0, m] ∧ W1.heap.size ≤ qb ∧ w7.ownsRow W1.heap.size 4 1 g P.gh.length (bools P.gh) ∧ w7.ownsRow W1.heap.size 51 3 v P.vs.length (vrs P.vs) ∧ w7.ownsRow W1.heap.size 3 1 t P.ts.length (ints P.ts) ∧ w7.ownsRow W1.heap.size 49 6 m P.ms.length (acs P.ms) ∧ Below W1.heap.size W1 w7 from ⟨_, _, _, _, hq2 rfl, hq1, hJ.s2 rfl, hJ.s5 rfl, hJ.s8 rfl, hJ.s11 rfl, hJ.b⟩)
   clear hJ hq2 hq1
   simp only [e13]
   clear e13
   go_wp2_with fail
   go_meet
   case rel =>
     obtain ⟨g9, v9, t9, m9, h9⟩ := HJ.out
     exact ⟨g9, v9, t9, m9, qb, rfl, h9⟩
 case rest =>
   obtain ⟨g, v, t, m, qb, rfl, hbk, hqb, hog, hov, hot, hom, hbw⟩ := hcut
   rename World => wx
   have HTW := hide (show Tw W1 P qb g v t m (.slice none 0 0) 0 [] wx from ⟨hbk, hqb, hog, hov, hot, hom, World.ownsRow_nil _ _ _ _, fun k l hk _ => absurd hk (Nat.not_lt_zero k), hbw⟩)
   have b3x : wx.cell? ⟨w.heap.size, 3, none⟩ = some (.slice oa P.on.length oc) := (hbw.cell hpl).trans b3
   have HBK := hide hbk
   clear hbk hog hov hot hom hbw b0 b1 b2 b3 b4
   obtain ⟨N, hN⟩ : ∃ N, P.on.length = N := ⟨_, rfl⟩
   rw [hN] at b3x k4
   have HN := hide hN
   clear hN
   go_wp2_with fail
   go_loopw [22] (fun t22 Wi => ∃ (i : Nat) (o : Value) (us : List Value), t22 = .int .i64 (i : Int) ∧ i ≤ N ∧ Tw W1 P qb g v t m o i us Wi) (fun t22 _ => N - (intOf t22).toNat)
   case atStart => exact ⟨0, .slice none 0 0, [], rfl, Nat.zero_le _, HTW.out⟩
   case round =>
     obtain ⟨i, o, us, rfl, hi, htw⟩ := hrel
     rename World => Wi
     have HTI := hide htw
     have hq2 := IntWalk.i64_in ((i : Int) + 1) (by omega)
     by_cases hil : i < N
     · have hiI : (i : Int) < (N : Int) := by omega
       obtain ⟨l, hl⟩ : ∃ l, P.on[i]? = some l := ⟨_, List.getElem?_eq_getElem (by rw [HN.out]; exact hil)⟩
       obtain ⟨⟨ra, rc⟩, hr⟩ : ∃ r, rs[i]? = some r := ⟨_, List.getElem?_eq_getElem (by rw [hrl2, HN.out]; exact hil)⟩
       obtain ⟨ad, e, hab, q0⟩ := src_get (HM.out.below htw.b).o (i := i) (v := .slice ra l.length rc) (by rw [HN.out]; omega) (slv_get _ _ i _ _ hr hl)
       simp only at e
       subst e
       have HSL := hide ((HM.out.below htw.b).e.2 i ra rc l (by rw [List.getElem?_append_left (by rw [hrl2, HN.out]; exact hil)]; exact hr) (by rw [List.getElem?_append_left (by rw [HN.out]; exact hil)]; exact hl)).1
       have hll : l.length ≤ 131072 := k5 l (List.mem_append_left _ (List.mem_of_getElem? hl))
       have HL := hide hl
       have hk := htw.k
       obtain ⟨z0, z1, z2, z3, z4, y0, y1, y2, y3, y4⟩ := blk5 hk
       have hqlt := hk.lt
       obtain ⟨i4, hi4, hy0, hy1, hy2⟩ := info_parts3 infS
       clear hl hr htw hk
       go_upto_region 5 with fail
       refine wp_region_par (J5 Wi W1.heap.size qb i o (.slice ra l.length rc) us l) [[], [0], [], [2], [2, 3], [0, 1, 2, 3, 4], [0, 1, 2, 3, 4, 5], [0, 1, 2, 3, 4, 5, 6]] (by kernel_rfl) (by kernel_rfl) (fun vs => J5.start _ _ _ _ _ _ _ _ vs) (fun vs => ?_)
       refine wpPar_step0 rfl (fun S w' hS hA hD hJ R hR => ?_) (fun K hK => ?_)
       · have h5 : S 5 = false := hD 5 (by decide) (by decide)
         go_simp
         exact hR _ _ (hJ.known (by decide) rfl)
       go_simp
       refine hK _ ?_
       clear hK K
       refine wpPar_step0 rfl (fun S w' hS hA hD hJ R hR => ?_) (fun K hK => ?_)
       · have h5 : S 5 = false := hD 5 (by decide) (by decide)
         have k0 : vs 0 = _ := hJ.k 0 _ rfl (hA 0 (by decide))
         have hc := ((hJ.b h5).cell (p := ⟨qb, 3, none⟩) hqlt).trans z3
         simp only [k0]
         go_simp
         exact hR _ _ (hJ.known (by decide) rfl)
       go_simp
       refine hK _ ?_
       clear hK K
       refine wpPar_step0 rfl (fun S w' hS hA hD hJ R hR => ?_) (fun K hK => ?_)
       · have h5 : S 5 = false := hD 5 (by decide) (by decide)
         go_simp
         exact hR _ _ (hJ.known (by decide) rfl)
       go_simp
       refine hK _ ?_
       clear hK K
       refine wpPar_step0 rfl (fun S w' hS hA hD hJ R hR => ?_) (fun K hK => ?_)
       · have h5 : S 5 = false := hD 5 (by decide) (by decide)
         have k2 : vs 2 = _ := hJ.k 2 _ rfl (hA 2 (by decide))
         have h4 : S 4 = false := hD 4 (by decide) (by decide)
         have hc := cloneA_i w' ra l.length rc (acs l) (HSL.out.below (hJ.b h5)) (acs_len _) (acs_one _) (by omega)
         have hfin := hc.mono (fun en w'' hh => show ∃ u, en = .returned u ∧ R u w'' from (by obtain ⟨u, e1, e2, e3⟩ := hh; exact ⟨u, e1, hR _ _ (hJ.c3 h5 h4 e2 e3)⟩))
         refine par_call 99 (.tmp 28) 26 (by rfl) Try.f99 Try.func99 (by decide) (by unfold Try.f99; simp) (.slice ra l.length rc) ?_ hfin
         exact k2
       go_simp
       refine hK _ ?_
       clear hK K
       refine wpPar_step0 rfl (fun S w' hS hA hD hJ R hR => ?_) (fun K hK => ?_)
       · have h5 : S 5 = false := hD 5 (by decide) (by decide)
         have k2 : vs 2 = _ := hJ.k 2 _ rfl (hA 2 (by decide))
         have h3 : S 3 = true := hA 3 (by decide)
         obtain ⟨ox, cx, ex⟩ := own_slice (hJ.s3 h3 h5)
         have hfin := hR _ _ (hJ.c4 h5 h3)
         rw [ex] at hfin
         simp only [ex]
         go_simp
         exact hfin
       go_simp
       refine hK _ ?_
       clear hK K
       refine wpPar_step0 rfl (fun S w' hS hA hD hJ R hR => ?_) (fun K hK => ?_)
       · have h5 : S 5 = false := hS
         have k0 : vs 0 = _ := hJ.k 0 _ rfl (hA 0 (by decide))
         have k1 : vs 1 = _ := hJ.k 1 _ rfl (hA 1 (by decide))
         have k2 : vs 2 = _ := hJ.k 2 _ rfl (hA 2 (by decide))
         have h3 : S 3 = true := hA 3 (by decide)
         have h7 : S 7 = false := hD 7 (by decide) (by decide)
         obtain ⟨gx, kx, hx1, hx2⟩ := hJ.s4 (hA 4 (by decide)) h5
         obtain ⟨ox, cx, ex⟩ := own_slice (hJ.s3 h3 h5)
         have hone : (vs 3).oneCell' = true := by rw [ex]; rfl
         obtain ⟨u9, w9, hrun, r1, r2, r3⟩ := run_append_own_at (P := Try.prog) w' W1.heap.size 25 25 26 i4 _ 1 24 Try.underlying25 hi4 hy0 hy1 hy2 rfl (by decide) o i us (own_below HTI.out.o1 (hJ.b h5) (Nat.le_refl _)) ⟨gx, 0, none⟩ 1 1 [vs 3] rfl (one_cellJ hx1) (by intro u hu; simp at hu; rw [hu]; exact hone) (by unfold maxLen; omega) (by omega) (Nat.le_trans HTI.out.b.size (hJ.b h5).size)
         have hfin := hR _ _ (hJ.c5 h5 h7 h3 r1 r2 r3.2)
         refine par_append (.tmp 27) (.tmp 30) 25 (by rfl) o (.slice (some ⟨gx, 0, none⟩) 1 1) ?_ ?_ hrun ?_
         · exact k1
         · exact kx
         · exact hfin
       go_simp
       refine hK _ ?_
       clear hK K
       refine wpPar_step0 rfl (fun S w' hS hA hD hJ R hR => ?_) (fun K hK => ?_)
       · have h5 : S 5 = true := hA 5 (by decide)
         have k0 : vs 0 = _ := hJ.k 0 _ rfl (hA 0 (by decide))
         have k1 : vs 1 = _ := hJ.k 1 _ rfl (hA 1 (by decide))
         have k2 : vs 2 = _ := hJ.k 2 _ rfl (hA 2 (by decide))
         simp only [k0, k1, k2]
         go_simp
         exact hR _ _ (hJ.known (by decide) rfl)
       go_simp
       refine hK _ ?_
       clear hK K
       refine wpPar_step0 rfl (fun S w' hS hA hD hJ R hR => ?_) (fun K hK => ?_)
       · have h5 : S 5 = true := hA 5 (by decide)
         have k0 : vs 0 = _ := hJ.k 0 _ rfl (hA 0 (by decide))
         have k1 : vs 1 = _ := hJ.k 1 _ rfl (hA 1 (by decide))
         have k2 : vs 2 = _ := hJ.k 2 _ rfl (hA 2 (by decide))
         have k6 : vs 6 = _ := hJ.k 6 _ rfl (hA 6 (by decide))
         have ha := hJ.mid h5 hS
         obtain ⟨⟨w5, hb5, _, hg5⟩, hr5, _⟩ := ha
         have hk6 := (HTI.out.k.below hb5 HTI.out.k.lt).grown hg5 (fun e => own_blk_ne HTI.out.o1 HTI.out.k (by decide) e.symm)
         have hfz := hk6.frozen 3
         have hcz := hk6.cell 3
         obtain ⟨ox, cx, ex⟩ := own_slice hr5
         have hfin := hR _ _ (hJ.c7 (c := undef) h5 hS)
         generalize i + 1 = m9 at ex
         obtain ⟨oy, hy⟩ : ∃ oy, oy = vs 5 := ⟨_, rfl⟩
         have ey := hy.trans ex
         rw [← hy] at hfin ⊢
         clear hy ex hJ hR hr5 hg5
         subst ey
         simp only [k6]
         go_simp
         exact hfin
       go_simp
       refine hK _ ?_
       clear hK K
       refine wpPar_nil (fun w7 hJ => ?_)
       obtain ⟨x9, y9, w6, ha, e7⟩ := hJ.fin
       have HT7 := hide (show Tw W1 P qb g v t m y9 (i + 1) (us ++ [x9]) w7 by rw [e7]; exact HTI.out.next HL.out ha)
       clear hJ ha e7
       go_wp2_with fail
       go_roundw
       case rel => exact ⟨i + 1, y9, us ++ [x9], by go_num, by omega, HT7.out⟩
       case measure =>
         simp only [intOf]
         omega
     · have hie : i = N := by omega
       subst hie
       have hiI : ¬ (i : Int) < (i : Int) := by omega
       obtain ⟨z0, z1, z2, z3, z4, y0, y1, y2, y3, y4⟩ := blk5 htw.k
       have hkr : Blk Wi (w.heap.size + 1) 28 #[.slice none 0 0, .slice none 0 0, .slice none 0 0, .slice none 0 0, .slice none 0 0] := HKR.out.below htw.b (by have := HKR.out.lt; omega)
       obtain ⟨x0, x1, x2, x3, x4, u0, u1, u2, u3, u4⟩ := blk5 hkr
       obtain ⟨og, cg, eg⟩ := own_slice htw.g1
       obtain ⟨ov, cv, ev⟩ := own_slice htw.v1
       obtain ⟨ot, ct, et⟩ := own_slice htw.t1
       obtain ⟨oo, co, eo⟩ := own_slice htw.o1
       obtain ⟨om, cm, em⟩ := own_slice htw.m1
       have hWB := HB1.out.trans (htw.b.mono (by omega))
       clear htw hkr
       subst eg ev et eo em
       have HFIN := hide (fun a b c d e => twin_fin (B := w.heap.size) (a := a) (b := b) (c := c) (d := d) (e := e) HTI.out HKR.out (Nat.le_refl _) (by omega) hWB)
       clear hWB
       go_wp2_with fail
       refine bodyPost_ret (v := .agg #[.slice og P.gh.length cg, .slice ov P.vs.length cv, .slice ot P.ts.length ct, .slice oo i co, .slice om P.ms.length cm]) ?_ rfl ?_
       · simp only [results, HRES.out]
         go_simp
       rw [HN.out]
       have h9 := HFIN.out (.slice og P.gh.length cg) (.slice ov P.vs.length cv) (.slice ot P.ts.length ct) (.slice oo i co) (.slice om P.ms.length cm)
       exact ⟨_, _, _, _, _, rfl, h9.1, h9.2.1, h9.2.2.1, us, h9.2.2.2.1, fun k l hl => h9.2.2.2.2.1 k l (by have := (List.getElem?_eq_some_iff.1 hl).1; rw [HN.out] at this; exact this) hl, h9.2.2.2.2.2.1, h9.2.2.2.2.2.2⟩
end Go.Proofs.Ytdpokdcendgfeaa
