/- Several texts in one: The walk of rule.Check. rule.Check tells checkV. The walk of fold.Left. rule.Twin: words for memory, and its regions that draw their order. rule.Twin: what its loop keeps. Conditions: those of each. -/
import Derived.Test.YtdpokdcendgfeaaW2
import Derived.Test.YtdpokdcendgfeaaW14
import Derived.Deep.CutBlock
import Derived.Deep.DeepCutAuto
import Derived.Test.YtdpokdcendgfeaaW12
import Derived.Deep.DeepMust
import Derived.Test.YtdpokdcendgfeaaW3b
import Derived.Test.YtdpokdcendgfeaaW5
set_option linter.unusedSimpArgs false
set_option linter.unusedVariables false
set_option maxHeartbeats 80000000
namespace Go.Proofs.Ytdpokdcendgfeaa
open Go.RowKit
set_option maxRecDepth 100000 in
theorem check_of (P : Pl) (hrow : ∀ f, RowAll P f) (w : World) (q : PlV) (rs : List (Option Addr × Nat)) (h : PlMem w q P rs) (hbig : ∀ l ∈ P.on ++ [P.ms], l.length ≤ 4398046511104) :
   Calls Try.prog 37 #[q.val] w fun en w' => en = .returned (.int .i64 (checkV P : Int)) ∧ Below w.heap.size w w' := by
 have HM := hide h
 have HROW := hide hrow
 have HBIG := hide hbig
 clear hbig hrow
 obtain ⟨e1, e2, e3, e4, e5, _, _, _, _, _, l1, l2, l3, l4⟩ := h
 obtain ⟨ga, va, ta, oa, ma, gl, gc, vl, vc, tl, tc, ol, oc, ml, mc⟩ := q
 simp only at e1 e2 e3 e4 e5
 subst e1 e2 e3 e4 e5
 simp only [PlV.val]
 unfold maxLen at l1 l2 l3 l4
 have HF := fun (W : World) (y : Int) => hide (from_i W y 1 255)
 have hb1 : Below w.heap.size w (w.alloc (.cells #[.slice ga P.gh.length gc, .slice va P.vs.length vc, .slice ta P.ts.length tc, .slice oa P.on.length oc, .slice ma P.ms.length mc] 28)) := (Below.refl _ w).alloc (Nat.le_refl _) _
 have hk1 := Blk.new w 28 #[.slice ga P.gh.length gc, .slice va P.vs.length vc, .slice ta P.ts.length tc, .slice oa P.on.length oc, .slice ma P.ms.length mc]
 have HB1 := hide hb1
 have HK1 := hide hk1
 clear hb1 hk1
 by_cases hd : P.gh.length ≤ 16 ∧ P.vs.length ≤ 16 ∧ P.ts.length ≤ 4 ∧ P.on.length = P.gh.length
 · obtain ⟨d1, d2, d3, d4⟩ := hd
   have hd1 : ¬ (16 : Int) < (P.gh.length : Int) := by omega
   have hd2 : ¬ (16 : Int) < (P.vs.length : Int) := by omega
   have hd3 : ¬ (4 : Int) < (P.ts.length : Int) := by omega
   rw [d4]
   rw [d4] at HB1 HK1
   go_enter Try.func37, Try.ntmps37
   go_wp2_with fail
   go_loopw [44] (fun tx W => ∃ i : Nat, tx = .int .i64 (i : Int) ∧ i ≤ P.vs.length ∧ (P.vs.take i).all vrOk = true ∧ Below w.heap.size w W ∧ Blk W w.heap.size 28 #[.slice ga P.gh.length gc, .slice va P.vs.length vc, .slice ta P.ts.length tc, .slice oa P.gh.length oc, .slice ma P.ms.length mc]) (fun tx _ => P.vs.length - (intOf tx).toNat)
   case atStart => exact ⟨0, rfl, Nat.zero_le _, by simp, HB1.out, HK1.out⟩
   case round =>
     obtain ⟨i, rfl, hi, hall, hB, hk⟩ := hrel
     rename World => W
     have HA := hide hall
     have HB := hide hB
     have HK := hide hk
     have hq1 := IntWalk.i64_in ((i : Int) + 1) (by omega)
     by_cases hlt : i < P.vs.length
     · obtain ⟨x, hx⟩ : ∃ x, P.vs[i]? = some x := ⟨_, List.getElem?_eq_getElem hlt⟩
       obtain ⟨ad, e, hab, q0, q1, q2⟩ := vrs_row (HM.out.below hB).v hx
       simp only at e
       subst e
       obtain ⟨x0, x1, x2⟩ := x
       simp only at q0 q1 q2
       have HX := hide hx
       have hvo := vrOk_iff ⟨x0, x1, x2⟩
       simp only at hvo
       clear hall hB hk hx hab
       by_cases hv : x1 ≤ x0 ∧ x0 ≤ x2 ∧ -1073741824 ≤ x1 ∧ x2 ≤ 1073741824
       · have HVT := hide (hvo.2 hv)
         obtain ⟨v1, v2, v3, v4⟩ := hv
         clear hvo
         go_wp2_with fail
         go_roundw
         case rel => exact ⟨i + 1, by go_num, by omega, all_take_succ HX.out HA.out HVT.out, HB.out.alloc HB.out.size _, HK.out.alloc _⟩
         case measure => simp [intOf]; omega
       · have hvf : vrOk ⟨x0, x1, x2⟩ = false := by
           cases hq : vrOk ⟨x0, x1, x2⟩ with
           | false => rfl
           | true => exact (hv (hvo.1 hq)).elim
         have HTF := hide (check_vars (all_false HX.out hvf))
         have HV := hide hv
         clear hvo hvf hv
         go_wp2_with fail
         all_goals
           first
           | (exfalso; have := HV.out; omega)
           | (go_ret
              exact ⟨by rw [HTF.out]; rfl, HB.out.alloc HB.out.size _⟩)
     · have he : i = P.vs.length := by omega
       have HA2 := hide (show P.vs.all vrOk = true by rw [he, List.take_of_length_le (Nat.le_refl _)] at hall; exact hall)
       have p2 : W.cell? ⟨w.heap.size, 2, none⟩ = some (.slice ta P.ts.length tc) := by rw [hk.cell]; rfl
       clear hall hB hk
       go_wp2_with fail
       go_loopw [74] (fun tx W' => ∃ i : Nat, tx = .int .i64 (i : Int) ∧ i ≤ P.ts.length ∧ (P.ts.take i).all (fun t => fromV t 1 255) = true ∧ Below w.heap.size w W' ∧ Blk W' w.heap.size 28 #[.slice ga P.gh.length gc, .slice va P.vs.length vc, .slice ta P.ts.length tc, .slice oa P.gh.length oc, .slice ma P.ms.length mc]) (fun tx _ => P.ts.length - (intOf tx).toNat)
       case atStart => exact ⟨0, rfl, Nat.zero_le _, by simp, HB.out, HK.out⟩
       case round =>
         clear HA HB HK p2 hlt he hq1
         obtain ⟨j, rfl, hj, hall, hB, hk⟩ := hrel
         rename World => W'
         have HA := hide hall
         have HB := hide hB
         have HK := hide hk
         have hq1 := IntWalk.i64_in ((j : Int) + 1) (by omega)
         by_cases hlt : j < P.ts.length
         · obtain ⟨x, hx⟩ : ∃ x, P.ts[j]? = some x := ⟨_, List.getElem?_eq_getElem (by omega)⟩
           obtain ⟨ad, e, hab, q0⟩ := src_get (HM.out.below hB).t (i := j) (v := .int .i64 x) (by omega) (by simp [ints, hx])
           simp only at e
           subst e
           have HX := hide hx
           clear hall hB hk hx hab
           cases hv : fromV x 1 255 with
           | true =>
             have HV := hide hv
             go_wp2_with (go_at_call 63; refine (HF _ _).out.mono ?_; rintro en w1 ⟨rfl, rfl⟩)
             go_roundw
             case rel => exact ⟨j + 1, by go_num, by omega, all_take_succ HX.out HA.out HV.out, HB.out, HK.out⟩
             case measure => simp [intOf]; omega
           | false =>
             have HTF := hide (check_tags (all_false (p := fun t => fromV t 1 255) HX.out hv))
             go_wp2_with (go_at_call 63; refine (HF _ _).out.mono ?_; rintro en w1 ⟨rfl, rfl⟩)
             go_ret
             exact ⟨by rw [HTF.out]; rfl, HB.out⟩
         · have he : j = P.ts.length := by omega
           have HA3 := hide (show P.ts.all (fun t => fromV t 1 255) = true by rw [he, List.take_of_length_le (Nat.le_refl _)] at hall; exact hall)
           have p3 : W'.cell? ⟨w.heap.size, 3, none⟩ = some (.slice oa P.gh.length oc) := by rw [hk.cell]; rfl
           have p4 : W'.cell? ⟨w.heap.size, 4, none⟩ = some (.slice ma P.ms.length mc) := by rw [hk.cell]; rfl
           have hbx : w.heap.size < W'.heap.size := hk.lt
           have pa3 : ∀ o, (W'.alloc o).cell? _ = _ := fun o => (World.cell?_alloc_lt W' o _ (by exact hbx)).trans p3
           have pa4 : ∀ o, (W'.alloc o).cell? _ = _ := fun o => (World.cell?_alloc_lt W' o _ (by exact hbx)).trans p4
           obtain ⟨i3, hi3, hz0, hz1, hz2⟩ := info_parts3 infS
           have HMW := hide (HM.out.below hB)
           have hrl := HMW.out.e.1
           simp only [List.length_append, List.length_cons, List.length_nil] at hrl
           have HCL := hide (fun (W : World) (hb : Below W'.heap.size W' W) => by
             have := cloneS_i W oa P.on.length oc (slv rs P.on) ((HMW.out.o).below hb) (by rw [slv_length _ _ (by omega)]; omega) (slv_one _ _) (by omega)
             rw [d4] at this
             exact this)
           clear hall hB hk hrl he
           go_upto_region 16 with fail
           go_cut [8] from 82 to 88 (fun s8 wx => ∃ v7 : Value, s8 = v7 ∧ wx.ownsRow W'.heap.size 26 1 v7 (P.gh.length + 1) (slv rs P.on ++ [.slice ma P.ms.length mc]) ∧ Below W'.heap.size W' wx)
           case first =>
             go_region_law (first
               | (refine step_call rfl 64 (.tmp 83) 25 rfl Try.f64 Try.func64 (by decide) (by decide) (.slice oa P.gh.length oc) (by simp [Act.eval, Act.put]) (fun v' w' => w'.ownsRow W'.heap.size 26 1 v' P.gh.length (slv rs P.on) ∧ Below W'.heap.size W' w') ((HCL.out W'.drew (Below.refl _ _).drew).mono (fun e w' hh => by
                     obtain ⟨v', rfl, ho, hb'⟩ := hh
                     exact ⟨v', rfl, own_down ho (by simp), (Below.refl _ W').drew.trans hb'⟩)) ?_
                  rintro v4 w4 ⟨hown, hb4⟩
                  have p4 : w4.cell? _ = _ := (hb4.cell (by exact hbx)).trans p4
                  have HOWN := hide hown
                  have HB4 := hide hb4
                  clear hown hb4)
               | (refine step_call rfl 64 (.tmp 83) 25 rfl Try.f64 Try.func64 (by decide) (by decide) (.slice oa P.gh.length oc) (by simp [Act.eval, Act.put]) (fun v' w' => w'.ownsRow (W'.heap.size + 1) 26 1 v' P.gh.length (slv rs P.on) ∧ Below W'.heap.size W' w' ∧ Blk w' W'.heap.size 26 #[.slice ma P.ms.length mc]) ((HCL.out (W'.alloc (.cells #[.slice ma P.ms.length mc] 26)).drew ((Below.refl _ _).alloc (Nat.le_refl _) _).drew).mono (fun e w' hh => by
                     obtain ⟨v', rfl, ho, hb'⟩ := hh
                     exact ⟨v', rfl, own_down ho (by simp), ((Below.refl _ W').alloc (Nat.le_refl _) _).drew.trans (hb'.mono (by simp)), (Blk.new W' 26 _).drew.below hb' (by simp)⟩)) ?_
                  rintro v4 w4 ⟨hown, hb4, hm4⟩
                  have p4 : w4.cell? _ = _ := (hb4.cell (by exact hbx)).trans p4
                  have HOWN := hide (own_down hown (Nat.le_succ _))
                  have HB4 := hide hb4
                  have HM4 := hide hm4
                  clear hown hb4 hm4)
               | (refine step_append_own rfl (.tmp 84) (.tmp 87) 25 rfl W'.heap.size 26 i3 (.slice none 0 0) 1 24 Try.underlying25 hi3 hz0 hz1 hz2 rfl (by decide) v4 P.gh.length (slv rs P.on) (by simp [Act.eval, Act.put]) (by first | exact HOWN.out | exact own_keep HOWN.out (fun k hk => Below.heap_alloc _ _ k (HOWN.out.lt k hk).2)) ⟨_, 0, none⟩ 1 1 [.slice ma P.ms.length mc] (by simp [Act.eval, Act.put]; rfl) rfl (by
                     intro j u hj
                     obtain rfl : j = 0 := by have := (List.getElem?_eq_some_iff.1 hj).1; simp at this; exact this
                     simp at hj
                     subst hj
                     show World.cell? _ ⟨_, 0, none⟩ = _
                     first
                     | exact (Blk.new w4 26 #[.slice ma P.ms.length mc]).cell 0
                     | exact HM4.out.cell 0) (by simp [Value.oneCell']) (by unfold maxLen; omega) (by omega) (by have := HB4.out.size; simp; omega) ?_
                  intro v5 w5 hown5 hgrow
                  have HOWN5 := hide hown5
                  have HGR := hide hgrow
                  clear hown5 hgrow))
             all_goals
               simp only [List.getElem_toArray, List.getElem_cons_succ, List.getElem_cons_zero, Act.put, List.setIfInBounds_toArray, List.set_cons_zero, List.set_cons_succ]
               go_wp2_with fail
               go_meet
               case rel => exact ⟨_, rfl, HOWN5.out, by first | exact HB4.out.trans (below_grow HGR.out (fun k hk => (HOWN.out.lt k hk).1) HB4.out.size) | exact (HB4.out.alloc HB4.out.size _).trans (below_grow HGR.out (fun k hk => (HOWN.out.lt k hk).1) (by have := HB4.out.size; simp; omega))⟩
           case rest =>
             obtain ⟨v7, rfl, hown, hb5⟩ := hcut
             have hrl : rs.length = P.on.length := by have := HMW.out.e.1; simpa using this
             have hown2 : wc.ownsRow W'.heap.size 26 1 u8 (P.gh.length + 1) (slv (rs ++ [(ma, mc)]) (P.on ++ [P.ms])) := by rw [slv_append _ _ _ _ hrl]; exact hown
             have hem := HMW.out.e.below hb5
             have hgc := HMW.out.g.below hb5
             have hkc := HK.out.below hb5 hbx
             have hbc := HB.out.trans (hb5.mono HB.out.size)
             have hn : (P.on ++ [P.ms]).length = P.gh.length + 1 := by simp [d4]
             have HSZ := hide hb5.size
             have HA2O := HA2
             clear hown hb5 hrl p3 p4 pa3 pa4 hi3 hz0 hz1 hz2 HCL HMW HM HA hq1
             simp only at hem hgc
             obtain ⟨N, hN⟩ : ∃ N, P.gh.length + 1 = N := ⟨_, rfl⟩
             rw [hN] at hown2 hn
             have hN0 : 0 < N := by omega
             have hN9 : N ≤ 17 := by omega
             clear hN
             obtain ⟨evs, hevs⟩ : ∃ evs, P.on ++ [P.ms] = evs := ⟨_, rfl⟩
             obtain ⟨ers, hers⟩ : ∃ ers, rs ++ [(ma, mc)] = ers := ⟨_, rfl⟩
             rw [hevs, hers] at hown2 hem
             rw [hevs] at hn HBIG
             have HEVS := hide hevs
             clear hevs hers
             obtain ⟨g8, cap8, rfl, _⟩ := own_form hown2 (by omega)
             have HEM := hide hem
             have HGC := hide hgc
             have HKC := hide hkc
             have HBC := hide hbc
             have HOWN := hide hown2
             have HN := hide hn
             clear hem hgc hkc hbc hown2
             go_wp2_with fail
             go_loopw [7, 91] (fun t7 t91 W => ∃ j : Nat, t7 = .int .i64 ((rowsV (evs.take j) : Nat) : Int) ∧ t91 = .int .i64 (j : Int) ∧ j ≤ N ∧ rowsV (evs.take j) ≤ 131072 ∧ wc = W) (fun _ t91 _ => N - (intOf t91).toNat)
             case atStart => exact ⟨0, by simp [rowsV], rfl, Nat.zero_le _, by simp [rowsV], rfl⟩
             case round =>
               obtain ⟨j, rfl, rfl, hj, hsum, rfl⟩ := hrel
               have hq2 := IntWalk.i64_in ((j : Int) + 1) (by omega)
               by_cases hlt : j < N
               · have hltI : (j : Int) < (N : Int) := by omega
                 obtain ⟨l, hl⟩ : ∃ l, evs[j]? = some l := ⟨_, List.getElem?_eq_getElem (by rw [HN.out]; exact hlt)⟩
                 obtain ⟨⟨ra, rc⟩, hr⟩ : ∃ r, ers[j]? = some r := ⟨_, List.getElem?_eq_getElem (by rw [HEM.out.1, HN.out]; exact hlt)⟩
                 have ce : wc.cell? ⟨g8, j, none⟩ = some (.slice ra l.length rc) := own_get HOWN.out j _ (slv_get _ _ j _ _ hr hl)
                 have hbg := HBIG.out l (List.mem_of_getElem? hl)
                 have hs := rowsV_succ hl
                 have HS := hide hs
                 have HLE := hide (rowsV_le evs (j + 1))
                 clear hl hr hs
                 obtain ⟨sm, hsm⟩ : ∃ sm, rowsV (evs.take j) = sm := ⟨_, rfl⟩
                 rw [hsm] at hsum HS ⊢
                 clear hsm
                 have hq3 := IntWalk.i64_in ((sm : Int) + (l.length : Int)) (by omega)
                 by_cases h7 : sm + l.length ≤ 131072
                 · have h7I : ¬ (131072 : Int) < (sm : Int) + (l.length : Int) := by omega
                   clear hbg
                   go_wp2_with fail
                   go_roundw
                   case rel => exact ⟨j + 1, by rw [HS.out]; go_num, by go_num, by omega, by rw [HS.out]; exact h7, trivial⟩
                   case measure =>
                     simp only [intOf]
                     omega
                 · have h7I : (131072 : Int) < (sm : Int) + (l.length : Int) := by omega
                   have HTF := hide (check_rows (P := P) (by rw [HEVS.out]; have := HLE.out; have := HS.out; omega))
                   clear hbg
                   go_wp2_with fail
                   go_ret
                   exact ⟨by rw [HTF.out]; rfl, HBC.out⟩
               · have he : j = N := by omega
                 have HRV := hide (show rowsV evs ≤ 131072 by rw [he, ← HN.out, List.take_length] at hsum; exact hsum)
                 have hltN : ¬ (j : Int) < (N : Int) := by omega
                 clear hsum hlt
                 clear he
                 go_wp2_with fail
                 go_loopw [104] (fun t104 W => ∃ j : Nat, t104 = .int .i64 (j : Int) ∧ j ≤ N ∧ (evs.take j).all (eventV P) = true ∧ Below wc.heap.size wc W) (fun t104 _ => N - (intOf t104).toNat)
                 case atStart => exact ⟨0, rfl, Nat.zero_le _, by simp, Below.refl _ _⟩
                 case round =>
                   obtain ⟨j, rfl, hj, hall, hb⟩ := hrel
                   rename World => W
                   have hq4 := IntWalk.i64_in ((j : Int) + 1) (by omega)
                   have HALL := hide hall
                   have HB6 := hide hb
                   have HBW := hide (HBC.out.trans (hb.mono HBC.out.size))
                   by_cases hlt : j < N
                   · have hltI : (j : Int) < (N : Int) := by omega
                     obtain ⟨l, hl⟩ : ∃ l, evs[j]? = some l := ⟨_, List.getElem?_eq_getElem (by rw [HN.out]; exact hlt)⟩
                     obtain ⟨⟨ra, rc⟩, hr⟩ : ∃ r, ers[j]? = some r := ⟨_, List.getElem?_eq_getElem (by rw [HEM.out.1, HN.out]; exact hlt)⟩
                     have ce : W.cell? ⟨g8, j, none⟩ = some (.slice ra l.length rc) := own_get (own_below HOWN.out hb (Nat.le_refl _)) j _ (slv_get _ _ j _ _ hr hl)
                     obtain ⟨hs1, hs2, hs3⟩ := (HEM.out.below hb).2 j ra rc l hr hl
                     have hll : l.length ≤ 131072 := Nat.le_trans (rowsV_one hl) HRV.out
                     have hkw := HKC.out.below hb HKC.out.lt
                     have b0 : W.cell? ⟨w.heap.size, 0, none⟩ = some (.slice ga P.gh.length gc) := by rw [hkw.cell]; rfl
                     have b1 : W.cell? ⟨w.heap.size, 1, none⟩ = some (.slice va P.vs.length vc) := by rw [hkw.cell]; rfl
                     have b2 : W.cell? ⟨w.heap.size, 2, none⟩ = some (.slice ta P.ts.length tc) := by rw [hkw.cell]; rfl
                     have b3 : W.cell? ⟨w.heap.size, 3, none⟩ = some (.slice oa P.gh.length oc) := by rw [hkw.cell]; rfl
                     have b4 : W.cell? ⟨w.heap.size, 4, none⟩ = some (.slice ma P.ms.length mc) := by rw [hkw.cell]; rfl
                     have HL := hide hl
                     by_cases hl0 : l.length = 0
                     · have hl0b : ((l.length : Int) == 0) = true := by simp [hl0]
                       have hev : eventV P l = true := by
                         have : l = [] := List.length_eq_zero_iff.1 hl0
                         subst this
                         rfl
                       have HEV := hide hev
                       have HLN := hide hl0
                       obtain ⟨ln, hln⟩ : ∃ ln, l.length = ln := ⟨_, rfl⟩
                       rw [hln] at ce hl0b hl0
                       clear hl hr hs1 hkw hb hall hev hs2 hll hln
                       subst hl0
                       go_wp2_with fail
                       go_roundw
                       case rel => exact ⟨j + 1, by go_num, by omega, all_take_succ HL.out HALL.out HEV.out, HB6.out.alloc HB6.out.size _⟩
                       case measure =>
                         simp only [intOf]
                         omega
                     · have hl0b : ((l.length : Int) == 0) = false := by simp [hl0]
                       have hl0I : ¬ (l.length : Int) = 0 := by omega
                       have hbn := (Below.refl W.heap.size W).alloc (Nat.le_refl _) (.cells (chk ⟨ga, va, ta, oa, ma, P.gh.length, gc, P.vs.length, vc, P.ts.length, tc, P.gh.length, oc, P.ms.length, mc⟩ ra l.length rc 0) 106)
                       have hsn := hs1.below hbn
                       have hckr : Ckr (W.alloc (.cells (chk ⟨ga, va, ta, oa, ma, P.gh.length, gc, P.vs.length, vc, P.ts.length, tc, P.gh.length, oc, P.ms.length, mc⟩ ra l.length rc 0) 106)) W.heap.size ⟨ga, va, ta, oa, ma, P.gh.length, gc, P.vs.length, vc, P.ts.length, tc, P.gh.length, oc, P.ms.length, mc⟩ P ra rc l 0 :=
                         ⟨⟨Blk.new _ _ _, rfl, rfl, rfl, (HGC.out.below hb).below hbn, ⟨by unfold maxLen; omega, by unfold maxLen; omega, by unfold maxLen; omega⟩⟩, hsn, fun ad e h7 => (by obtain ⟨ad', e', hlt2, _⟩ := hs1 (by omega); rw [e] at e'; injection e' with e'; subst e'; omega), fun h0 ad e h7 => (by obtain ⟨ad', e', hlt2, _⟩ := (HGC.out.below hb) h0; simp only at e; rw [e] at e'; injection e' with e'; subst e'; omega), hs2, hs3, by omega⟩
                       have HROWC := hide (HROW.out (l.length + 1) _ W.heap.size _ ra rc l 0 1 hckr (by omega))
                       have hvE : eventV P l = (match rowV P l (l.length + 1) 0 1 with | some (e, _) => decide (l.length ≤ e) | none => false) := by
                         unfold eventV
                         cases l with
                         | nil => simp at hl0
                         | cons => rfl
                       simp only [chk] at HROWC
                       clear hl hr hs1 hkw hb hall hs2 hbn hsn hckr
                       cases hrv : rowV P l (l.length + 1) 0 1 with
                       | none =>
                         rw [hrv] at HROWC hvE
                         have HTF := hide (check_event (P := P) (by rw [HEVS.out]; exact all_false HL.out hvE))
                         clear hrv hvE
                         go_wp2_with (go_at_call 65; refine HROWC.out.mono ?_; rintro en w5 ⟨ho5, -, hno5⟩; obtain ⟨n5, rfl⟩ := hno5 rfl; have HO5 := hide ho5; clear ho5 hno5)
                         go_ret
                         exact ⟨by rw [HTF.out]; rfl, (HBW.out.alloc HBW.out.size _).trans (HO5.out.below (fun k e => by have := HBW.out.size; omega) (by have := HBW.out.size; simp; omega))⟩
                       | some en =>
                         obtain ⟨e5, n5⟩ := en
                         rw [hrv] at HROWC hvE
                         simp only at hvE
                         by_cases h5 : l.length ≤ e5
                         · have h5b : decide (e5 < l.length) = false := by simp; omega
                           have h5I : ¬ (e5 : Int) < (l.length : Int) := by omega
                           have HEV := hide (show eventV P l = true by rw [hvE]; simp [h5])
                           clear hrv hvE
                           go_wp2_with (go_at_call 65; refine HROWC.out.mono ?_; rintro en w5 ⟨ho5, hso5, -⟩; obtain ⟨rfl, hc5⟩ := hso5 _ _ rfl; have m6 : w5.cell? ⟨W.heap.size, 2, none⟩ = w5.cell? ⟨W.heap.size, 2, none⟩ := rfl; have m7 : w5.cell? ⟨W.heap.size, 6, none⟩ = some (.int .i64 (e5 : Int)) := (by rw [hc5.c.k.cell]; rfl); have HO5 := hide ho5; clear ho5 hso5 hc5 m6)
                           go_roundw
                           case rel => exact ⟨j + 1, by go_num, by omega, all_take_succ HL.out HALL.out HEV.out, (HB6.out.alloc HB6.out.size _).trans (HO5.out.below (fun k e => by have := HB6.out.size; omega) (by have := HB6.out.size; simp; omega))⟩
                           case measure =>
                             simp only [intOf]
                             omega
                         · have h5b : decide (e5 < l.length) = true := by simp; omega
                           have h5I : (e5 : Int) < (l.length : Int) := by omega
                           have HTF := hide (check_event (P := P) (by rw [HEVS.out]; exact all_false HL.out (by rw [hvE]; simp; omega)))
                           clear hrv hvE
                           go_wp2_with (go_at_call 65; refine HROWC.out.mono ?_; rintro en w5 ⟨ho5, hso5, -⟩; obtain ⟨rfl, hc5⟩ := hso5 _ _ rfl; have m6 : w5.cell? ⟨W.heap.size, 2, none⟩ = w5.cell? ⟨W.heap.size, 2, none⟩ := rfl; have m7 : w5.cell? ⟨W.heap.size, 6, none⟩ = some (.int .i64 (e5 : Int)) := (by rw [hc5.c.k.cell]; rfl); have HO5 := hide ho5; clear ho5 hso5 hc5 m6)
                           go_ret
                           exact ⟨by rw [HTF.out]; rfl, (HBW.out.alloc HBW.out.size _).trans (HO5.out.below (fun k e => by have := HBW.out.size; omega) (by have := HBW.out.size; simp; omega))⟩
                   · have he : j = N := by omega
                     have HOK := hide (check_ok (P := P) d1 d2 d3 d4 HA2O.out HA3.out (by rw [HEVS.out]; exact HRV.out) (by rw [HEVS.out]; rw [he, ← HN.out, List.take_length] at hall; exact hall))
                     have hltN2 : ¬ (j : Int) < (N : Int) := by omega
                     clear hall hb hlt
                     clear he
                     go_wp2_with fail
                     go_ret
                     exact ⟨by rw [HOK.out]; rfl, HBW.out⟩
 · have HTF := hide (check_sizes hd)
   by_cases d1 : P.gh.length ≤ 16
   · have hd1 : ¬ (16 : Int) < (P.gh.length : Int) := by omega
     by_cases d2 : P.vs.length ≤ 16
     · have hd2 : ¬ (16 : Int) < (P.vs.length : Int) := by omega
       by_cases d3 : P.ts.length ≤ 4
       · have hd3 : ¬ (4 : Int) < (P.ts.length : Int) := by omega
         have hne : P.on.length ≠ P.gh.length := fun e => hd ⟨d1, d2, d3, e⟩
         have hneb : ((P.on.length : Int) != (P.gh.length : Int)) = true := by simp; omega
         clear hd
         go_enter Try.func37, Try.ntmps37
         go_wp2_with fail
         go_ret
         exact ⟨by rw [HTF.out]; rfl, HB1.out⟩
       · have hd3 : (4 : Int) < (P.ts.length : Int) := by omega
         clear hd
         go_enter Try.func37, Try.ntmps37
         go_wp2_with fail
         go_ret
         exact ⟨by rw [HTF.out]; rfl, HB1.out⟩
     · have hd2 : (16 : Int) < (P.vs.length : Int) := by omega
       clear hd
       go_enter Try.func37, Try.ntmps37
       go_wp2_with fail
       go_ret
       exact ⟨by rw [HTF.out]; rfl, HB1.out⟩
   · have hd1 : (16 : Int) < (P.gh.length : Int) := by omega
     clear hd
     go_enter Try.func37, Try.ntmps37
     go_wp2_with fail
     go_ret
     exact ⟨by rw [HTF.out]; rfl, HB1.out⟩
end Go.Proofs.Ytdpokdcendgfeaa
namespace Go.Proofs.Ytdpokdcendgfeaa
open Go.RowKit
set_option maxRecDepth 100000 in
theorem row_zero (P : Pl) : RowAll P 0 := by
 intro w g q ra rc l i what h hf
 have c5 : w.cell? ⟨g, 5, none⟩ = some (.slice ra l.length rc) := by rw [h.c.k.cell]; rfl
 have c6 : w.cell? ⟨g, 6, none⟩ = some (.int .i64 (i : Int)) := by rw [h.c.k.cell]; rfl
 have hed : decide (l.length ≤ i) = true := by simp; omega
 have hil2 : (l.length : Int) ≤ (i : Int) := by omega
 have hrv : rowV P l 0 i what = none := rfl
 rw [hrv]
 clear h hrv
 go_enter Try.func65, Try.ntmps65
 go_wp2_with fail
 go_quiet (fail)
 go_wp2_with fail
 go_ret2
 refine ⟨(Only.refl _ w).drewN _, fun e n h0 => ?_, fun _ => ⟨_, rfl⟩⟩
 cases h0
theorem row_all (P : Pl) : ∀ f, RowAll P f
 | 0 => row_zero P
 | f + 1 => row_of (row_all P f) (block_of (row_all P f))
theorem check_i (w : World) (q : PlV) (P : Pl) (rs : List (Option Addr × Nat)) (h : PlMem w q P rs) (hbig : ∀ l ∈ P.on ++ [P.ms], l.length ≤ 4398046511104) :
   Calls Try.prog 37 #[q.val] w fun en w' => en = .returned (.int .i64 (checkV P : Int)) ∧ Below w.heap.size w w' :=
 check_of P (row_all P) w q rs h hbig
end Go.Proofs.Ytdpokdcendgfeaa
namespace Go.Proofs.Ytdpokdcendgfeaa
open Go.RowKit
/-- an event of a plan -/
def evP (P : Pl) (k : Nat) : List Ac := (P.on ++ [P.ms])[k]?.getD []
def evN (P : Pl) (k : Nat) : Int := if k < P.on.length then (k : Int) else -1
/-- the first thing that is left in a plan -/
def leftPl (P : Pl) : Option (Int × Fd) := (List.range (P.on.length + 1)).findSome? fun k => (leftF (evP P k)).map fun f => (evN P k, f)
/-- an event's rows are as fold needs them -/
structure EvOk (l : List Ac) : Prop where
 s : Small l
 le : l.length ≤ 131072
 k : ∀ i, i < l.length → LkOk l i
def evQ (oo : Option Addr) (n gp k : Nat) : Option Addr := if k < n then oo.map (·.add k) else some ⟨gp, 4, none⟩
theorem evL_get (oo : Option Addr) (j : Nat) : ∀ n, j < n → (evL oo n)[j * 2]? = some (.int .i64 (j : Int)) ∧ (evL oo n)[j * 2 + 1]? = some (.pointer (oo.map (·.add j)))
 | 0, h => absurd h (Nat.not_lt_zero _)
 | n + 1, h => by
   rcases Nat.lt_or_ge j n with h1 | h1
   · obtain ⟨a, b⟩ := evL_get oo j n h1
     rw [evL, List.getElem?_append_left (by rw [evL_len]; omega), List.getElem?_append_left (by rw [evL_len]; omega)]
     exact ⟨a, b⟩
   · obtain rfl : j = n := by omega
     rw [evL, List.getElem?_append_right (by rw [evL_len]; omega), List.getElem?_append_right (by rw [evL_len]; omega), evL_len]
     rw [show j * 2 - j * 2 = 0 by omega, show j * 2 + 1 - j * 2 = 1 by omega]
     exact ⟨rfl, rfl⟩
theorem evs_get (oo : Option Addr) (n gp k : Nat) (h : k ≤ n) : (evs oo n gp)[k * 2]? = some (.int .i64 (if k < n then (k : Int) else -1)) ∧ (evs oo n gp)[k * 2 + 1]? = some (.pointer (evQ oo n gp k)) := by
 unfold evs evQ
 by_cases hk : k < n
 · rw [if_pos hk, if_pos hk, List.getElem?_append_left (by rw [evL_len]; omega), List.getElem?_append_left (by rw [evL_len]; omega)]
   exact evL_get oo k n hk
 · obtain rfl : k = n := by omega
   rw [if_neg hk, if_neg hk, List.getElem?_append_right (by rw [evL_len]; omega), List.getElem?_append_right (by rw [evL_len]; omega), evL_len]
   rw [show k * 2 - k * 2 = 0 by omega, show k * 2 + 1 - k * 2 = 1 by omega]
   exact ⟨rfl, rfl⟩
/-- an event's place and rows -/
theorem plan_ev {w : World} {q : PlV} {P : Pl} {rs : List (Option Addr × Nat)} (h : PlMem w q P rs) {gp : Nat} {a0 a1 a2 a3 : Value} (hb : Blk w gp 28 #[a0, a1, a2, a3, .slice q.ma q.ml q.mc]) {k : Nat} (hk : k ≤ P.on.length) :
   ∃ p oa c, evQ q.oa P.on.length gp k = some p ∧ p.block < w.heap.size ∧ w.cell? p = some (.slice oa (evP P k).length c) ∧ Src w oa (evP P k).length (acs (evP P k)) ∧ (evP P k).length ≤ c ∧ c ≤ maxLen := by
 have hlen : (P.on ++ [P.ms]).length = P.on.length + 1 := by simp
 obtain ⟨l, hl⟩ : ∃ l, (P.on ++ [P.ms])[k]? = some l := ⟨_, List.getElem?_eq_getElem (by omega)⟩
 have he : evP P k = l := by unfold evP; rw [hl]; rfl
 rw [he]
 obtain ⟨⟨oa, c⟩, hr⟩ : ∃ r, (rs ++ [(q.ma, q.mc)])[k]? = some r := ⟨_, List.getElem?_eq_getElem (by rw [h.e.1]; omega)⟩
 obtain ⟨h1, h2, h3⟩ := h.e.2 k oa c l hr hl
 have hrl : rs.length = P.on.length := by have := h.e.1; simpa using this
 unfold evQ
 by_cases hk2 : k < P.on.length
 · rw [List.getElem?_append_left (by omega)] at hr
   rw [List.getElem?_append_left hk2] at hl
   obtain ⟨ad, e, hb2, hx⟩ := h.o (by omega)
   rw [if_pos hk2, e]
   exact ⟨ad.add k, oa, c, rfl, by rw [add_block]; exact hb2, hx k _ (slv_get rs P.on k _ l hr hl), h1, h2, h3⟩
 · obtain rfl : k = P.on.length := by omega
   rw [if_neg hk2]
   rw [List.getElem?_append_right (by omega), hrl, Nat.sub_self] at hr
   rw [List.getElem?_append_right (Nat.le_refl _), Nat.sub_self] at hl
   simp only [List.getElem?_cons_zero, Option.some.injEq, Prod.mk.injEq] at hr hl
   obtain ⟨rfl, rfl⟩ := hr
   refine ⟨_, q.ma, q.mc, rfl, hb.lt, ?_, h1, h2, h3⟩
   rw [hb.cell]
   subst hl
   simp [h.ml]
def leftOf : Option (Int × Fd) → Int × Int × Int × Bool
 | none => (0, 0, 0, false)
 | some (n, f) => (n, (f.frm : Int), (f.what : Int), true)
/-- what fold.Left tells -/
def leftRes (P : Pl) : Int × Int × Int × Bool := if checkV P = 0 then leftOf (leftPl P) else (0, 0, 0, false)
set_option maxRecDepth 100000 in
theorem leftP_i (w : World) (q : PlV) (P : Pl) (rs : List (Option Addr × Nat)) (h : PlMem w q P rs) (hbig : ∀ l ∈ P.on ++ [P.ms], l.length ≤ 4398046511104) (hok : checkV P = 0 → P.on.length ≤ 16 ∧ ∀ k, EvOk (evP P k)) :
   Calls Try.prog 28 #[q.val] w fun en w' => en = .returned (.tuple #[.int .i64 (leftRes P).1, .int .i64 (leftRes P).2.1, .int .i64 (leftRes P).2.2.1, .bool (leftRes P).2.2.2]) ∧ Below w.heap.size w w' := by
 have HB0 := hide ((Below.refl w.heap.size w).alloc (Nat.le_refl _) (.cells #[.slice q.ga q.gl q.gc, .slice q.va q.vl q.vc, .slice q.ta q.tl q.tc, .slice q.oa q.ol q.oc, .slice q.ma q.ml q.mc] 28))
 have HP0 := hide (Blk.new w 28 #[.slice q.ga q.gl q.gc, .slice q.va q.vl q.vc, .slice q.ta q.tl q.tc, .slice q.oa q.ol q.oc, .slice q.ma q.ml q.mc])
 have HM := hide (h.below HB0.out)
 have HOK := hide hok
 have HBIG := hide hbig
 have HRES := hide (show Try.f28.results = #[.tmp 2, .tmp 3, .tmp 4, .tmp 5] by rfl)
 have hck := check_i (w.alloc (.cells #[.slice q.ga q.gl q.gc, .slice q.va q.vl q.vc, .slice q.ta q.tl q.tc, .slice q.oa q.ol q.oc, .slice q.ma q.ml q.mc] 28)) q P rs HM.out hbig
 simp only [PlV.val] at hck ⊢
 have HCK := hide hck
 have HOL := hide h.ol
 clear h hck hok hbig
 go_enter Try.func28, Try.ntmps28
 go_upto_region 1 with fail
 generalize w.alloc (.cells #[.slice q.ga q.gl q.gc, .slice q.va q.vl q.vc, .slice q.ta q.tl q.tc, .slice q.oa q.ol q.oc, .slice q.ma q.ml q.mc] 28) = W1 at HB0 HP0 HM HCK ⊢
 obtain ⟨gp, hgp⟩ : ∃ g, w.heap.size = g := ⟨_, rfl⟩
 rw [hgp] at HP0
 simp only [hgp]
 have HG := hide hgp
 clear hgp
 have hgl := HP0.out.lt
 have b0 : W1.cell? ⟨gp, 0, none⟩ = _ := HP0.out.cell 0
 have b1 : W1.cell? ⟨gp, 1, none⟩ = _ := HP0.out.cell 1
 have b2 : W1.cell? ⟨gp, 2, none⟩ = _ := HP0.out.cell 2
 have b3 : W1.cell? ⟨gp, 3, none⟩ = _ := HP0.out.cell 3
 have b4 : W1.cell? ⟨gp, 4, none⟩ = _ := HP0.out.cell 4
 simp only [List.getElem?_toArray, List.getElem?_cons_succ, List.getElem?_cons_zero] at b0 b1 b2 b3 b4
 by_cases hc0 : checkV P = 0
 · have hcb : ((checkV P : Int) != 0) = false := by simp [hc0]
   have HE := hide (show leftRes P = leftOf (leftPl P) by unfold leftRes; rw [if_pos hc0])
   obtain ⟨k4, hke⟩ := HOK.out hc0
   have HKE := hide hke
   have hno : P.on.length ≤ 131072 := by omega
   clear hc0 hke
   obtain ⟨no, hnn⟩ : ∃ n, P.on.length = n := ⟨_, rfl⟩
   have HNN := hide hnn
   have hol := HOL.out
   rw [hnn] at hol k4 hno
   rw [hol] at b3 HCK
   clear hnn hol
   have HEVT := hide (fun (W : World) (hb : Below W1.heap.size W1 W) => events_i W gp no q.oc q.oa ((hb.cell (p := ⟨gp, 3, none⟩) hgl).trans b3) (Nat.lt_of_lt_of_le hgl hb.size) (fun h0 => by have h9 := HM.out.o (by have := HNN.out; omega); obtain ⟨ad, e, _⟩ := h9; exact ⟨ad, e⟩) hno)
   go_upto_region 3 with (go_at_call 37; with_reducible refine HCK.out.mono ?_; rintro en W2 ⟨rfl, hb2⟩; have HB2 := hide hb2; clear hb2)
   have HEV2 := hide (HEVT.out W2 HB2.out)
   go_upto_region 4 with (go_at_call 51; go_must (with_reducible refine HEV2.out.mono ?_; rintro en W3 ⟨v3, rfl, ho3, hb3⟩; obtain ⟨ge, ce, e3, hce, hcm⟩ := own_form ho3 (by omega); subst e3; have HO3 := hide ho3; have HB3 := hide (HB2.out.trans (hb3.mono HB2.out.size)); clear ho3 hb3))
   clear b0 b1 b2 b3 b4
   obtain ⟨NE, hNE⟩ : ∃ n, no + 1 = n := ⟨_, rfl⟩
   rw [hNE] at HO3
   simp only [hNE]
   have HNE := hide hNE
   rw [hNE] at hce
   go_loopw [15] (fun t15 W => ∃ k : Nat, t15 = .int .i64 (k : Int) ∧ k ≤ NE ∧ Hid (∀ i, i < k → leftF (evP P i) = none) ∧ Below W3.heap.size W3 W) (fun t15 _ => NE - (intOf t15).toNat)
   case atStart => exact ⟨0, rfl, Nat.zero_le _, hide (fun i hi => absurd hi (Nat.not_lt_zero _)), Below.refl _ _⟩
   case round =>
     obtain ⟨k, rfl, hk, HF, hb⟩ := hrel
     have HB := hide hb
     have HBT := hide (HB3.out.trans (hb.mono HB3.out.size))
     clear hb
     have hq := IntWalk.i64_in ((k : Int) + 1) (by omega)
     by_cases hkn : k < NE
     · have hkI : (k : Int) < (NE : Int) := by omega
       have hk0 : (0 : Int) ≤ (k : Int) := by omega
       have HKN := hide hkn
       obtain ⟨adq, e9, hgb, hcells⟩ := own_src HO3.out (by omega)
       injection e9 with e9
       subst e9
       obtain ⟨g0, g1⟩ := evs_get q.oa no gp k (by omega)
       have c0 := (HB.out.cell (p := (⟨ge, 0, none⟩ : Addr).add (k * 2)) (by rw [add_block]; exact hgb)).trans (hcells _ _ g0)
       have c1 := (HB.out.cell (p := (⟨ge, 0, none⟩ : Addr).add (k * 2 + 1)) (by rw [add_block]; exact hgb)).trans (hcells _ _ g1)
       rw [show (⟨ge, 0, none⟩ : Addr).add (k * 2) = ⟨ge, k * 2, none⟩ by cases k <;> simp [Addr.add]] at c0
       rw [show (⟨ge, 0, none⟩ : Addr).add (k * 2 + 1) = ⟨ge, k * 2 + 1, none⟩ by simp [Addr.add]] at c1
       have hgw : ge < wr.heap.size := Nat.lt_of_lt_of_le hgb HB.out.size
       obtain ⟨p, oa, c, hp, hpb, hpc, hsr, hlc, hlm⟩ := plan_ev (HM.out.below HBT.out) (HP0.out.below HBT.out HP0.out.lt) (k := k) (by have := HNN.out; omega)
       rw [HNN.out] at hp
       rw [hp] at c1
       have hev := HKE.out k
       obtain ⟨n9, hn9⟩ : ∃ n : Int, (if k < no then (k : Int) else -1) = n := ⟨_, rfl⟩
       rw [hn9] at c0
       have HN9 := hide (show evN P k = n9 by unfold evN; rw [HNN.out]; exact hn9)
       obtain ⟨N, hN⟩ : ∃ n, (evP P k).length = n := ⟨_, rfl⟩
       have HBX := hide ((Below.refl wr.heap.size wr).alloc (Nat.le_refl _) (.cells #[.int .i64 n9, .pointer (some p)] 88))
       have hle := left_i (wr.alloc (.cells #[.int .i64 n9, .pointer (some p)] 88)) oa c (evP P k) (hsr.below HBX.out) hlc hlm hev.s hev.le hev.k
       rw [hN] at hle hpc
       have HLE := hide hle
       have hpc2 := (HBX.out.cell (p := p) hpb).trans hpc
       have hbx0 : (wr.alloc (.cells #[.int .i64 n9, .pointer (some p)] 88)).cell? ⟨wr.heap.size, 1, none⟩ = some (.pointer (some p)) := (Blk.new wr 88 #[.int .i64 n9, .pointer (some p)]).cell 1
       have HBX0 := hide (Blk.new wr 88 #[.int .i64 n9, .pointer (some p)])
       clear hkn hgb hcells g0 g1 hp hsr hlc hlm hev hn9 hN hle
       cases hlf : leftF (evP P k) with
       | none =>
         rw [hlf] at HLE
         have HNX := hide (show ∀ i, i < k + 1 → leftF (evP P i) = none from fun i hi => by rcases Nat.lt_or_ge i k with h1 | h1; exact HF.out i h1; rw [show i = k by omega]; exact hlf)
         clear hlf
         go_upto_region 7 with (go_at_call 52; with_reducible refine HLE.out.mono ?_; rintro en W5 ⟨hr5, hb5⟩; simp only [FndV] at hr5; obtain ⟨m0, m1, m2, oa3, nn3, cc3, m4, m5, e5⟩ := hr5; subst e5; have HB5 := hide (HBX.out.trans (hb5.mono HBX.out.size)); clear hb5)
         go_wp2_with fail
         go_roundw
         case rel => exact ⟨k + 1, by go_num, by have := HKN.out; omega, hide HNX.out, HB.out.trans ((HB5.out.alloc HB5.out.size _).mono HB.out.size)⟩
         case measure =>
           simp only [intOf]
           have := HKN.out
           omega
       | some f =>
         rw [hlf] at HLE
         have HE2 := hide (show leftPl P = some (n9, f) from find_first (j := k) (by have := HNN.out; have := HKN.out; omega) (fun i hi => by rw [HF.out i hi]; rfl) (by rw [hlf, Option.map_some, HN9.out]))
         clear hlf
         go_upto_region 7 with (go_at_call 52; with_reducible refine HLE.out.mono ?_; rintro en W5 ⟨hr5, hb5⟩; simp only [FndV, FdV] at hr5; obtain ⟨v5, e5, u5, e6, hr6⟩ := hr5; subst e5; subst e6; obtain ⟨oa3, nn3, cc3, e6⟩ := rin_form hr6; subst e6; have HB5 := hide (HBX.out.trans (hb5.mono HBX.out.size)); have HX5 := hide (HBX0.out.below hb5 HBX0.out.lt); clear hb5 hr6)
         have HX6 := hide (HX5.out.alloc (.cells #[.int .i64 (f.what : Int), .int .i64 (f.frm : Int), .int .i64 (f.to_ : Int), .slice oa3 nn3 cc3, .int .i64 f.parts, .int .i64 f.gone] 90))
         have HF6 := hide (Blk.new W5 90 #[.int .i64 (f.what : Int), .int .i64 (f.frm : Int), .int .i64 (f.to_ : Int), .slice oa3 nn3 cc3, .int .i64 f.parts, .int .i64 f.gone])
         have HB6 := hide (HB5.out.alloc HB5.out.size (.cells #[.int .i64 (f.what : Int), .int .i64 (f.frm : Int), .int .i64 (f.to_ : Int), .slice oa3 nn3 cc3, .int .i64 f.parts, .int .i64 f.gone] 90))
         generalize W5.alloc (.cells #[.int .i64 (f.what : Int), .int .i64 (f.frm : Int), .int .i64 (f.to_ : Int), .slice oa3 nn3 cc3, .int .i64 f.parts, .int .i64 f.gone] 90) = W6 at HX6 HF6 HB6 ⊢
         have x0 : W6.cell? ⟨wr.heap.size, 0, none⟩ = some (.int .i64 n9) := HX6.out.cell 0
         obtain ⟨f0, f1, f2, f3, f4, f5, _⟩ := blk6x HF6.out
         go_upto_region 8 with fail
         go_quiet (fail)
         go_wp2_with fail
         refine bodyPost_ret (v := .tuple #[.int .i64 n9, .int .i64 (f.frm : Int), .int .i64 (f.what : Int), .bool true]) ?_ rfl ?_
         · simp only [results, HRES.out]
           go_simp
         refine ⟨by rw [HE.out, HE2.out]; rfl, ?_⟩
         exact HB0.out.trans ((HBT.out.trans ((below_drewN HB6.out _).mono HBT.out.size)).mono HB0.out.size)
     · have hkI : ¬ (k : Int) < (NE : Int) := by omega
       have HE2 := hide (show leftPl P = none from find_none (fun i hi => by rw [HF.out i (by have := HNN.out; omega)]; rfl))
       clear hkn
       go_wp2_with fail
       refine bodyPost_ret (v := .tuple #[.int .i64 0, .int .i64 0, .int .i64 0, .bool false]) ?_ rfl ?_
       · simp only [results, HRES.out]
         go_simp
       refine ⟨by rw [HE.out, HE2.out]; rfl, ?_⟩
       exact HB0.out.trans (HBT.out.mono HB0.out.size)
 · have hcb : ((checkV P : Int) != 0) = true := by simp; omega
   have HE := hide (show leftRes P = (0, 0, 0, false) by unfold leftRes; rw [if_neg hc0])
   clear hc0
   go_wp2_with (go_at_call 37; with_reducible refine HCK.out.mono ?_; rintro en W2 ⟨rfl, hb2⟩; have HB2 := hide hb2; clear hb2)
   refine bodyPost_ret (v := .tuple #[.int .i64 0, .int .i64 0, .int .i64 0, .bool false]) ?_ rfl ?_
   · simp only [results, HRES.out]
     go_simp
   refine ⟨by rw [HE.out], ?_⟩
   exact HB0.out.trans (HB2.out.mono HB0.out.size)
end Go.Proofs.Ytdpokdcendgfeaa
namespace Go.Proofs.Ytdpokdcendgfeaa
open Go.RowKit
theorem own_al' {w : World} {base : Nat} {e : TypeId} {size n : Nat} {u : Value} {xs : List Value} {o : Obj} (h : w.ownsRow base e size u n xs) : (w.alloc o).ownsRow base e size u n xs :=
 own_keep h (fun k hk => Below.heap_alloc w o k (h.lt k hk).2)
theorem blk5 {w : World} {g : Nat} {t : TypeId} {a b c d e : Value} (h : Blk w g t #[a, b, c, d, e]) : w.cell? ⟨g, 0, none⟩ = some a ∧ w.cell? ⟨g, 1, none⟩ = some b ∧ w.cell? ⟨g, 2, none⟩ = some c ∧ w.cell? ⟨g, 3, none⟩ = some d ∧ w.cell? ⟨g, 4, none⟩ = some e ∧
   w.frozen? ⟨g, 0, none⟩ = false ∧ w.frozen? ⟨g, 1, none⟩ = false ∧ w.frozen? ⟨g, 2, none⟩ = false ∧ w.frozen? ⟨g, 3, none⟩ = false ∧ w.frozen? ⟨g, 4, none⟩ = false :=
 ⟨by rw [h.cell]; rfl, by rw [h.cell]; rfl, by rw [h.cell]; rfl, by rw [h.cell]; rfl, by rw [h.cell]; rfl, h.frozen 0, h.frozen 1, h.frozen 2, h.frozen 3, h.frozen 4⟩
theorem bools_one (l : List Bool) : ∀ u ∈ bools l, u.oneCell' = true := by
 intro u h
 simp only [bools, List.mem_map] at h
 obtain ⟨x, _, rfl⟩ := h
 rfl
theorem ints_one2 (l : List Int) : ∀ u ∈ ints l, u.oneCell' = true := by
 intro u h
 simp only [ints, List.mem_map] at h
 obtain ⟨x, _, rfl⟩ := h
 rfl
theorem vrs_one (l : List Vr) : ∀ u ∈ vrs l, u.oneCell' = true := by
 intro u h
 simp only [vrs, List.mem_flatten, List.mem_map] at h
 obtain ⟨_, ⟨x, _, rfl⟩, h⟩ := h
 simp [Vr.cells] at h
 rcases h with rfl | rfl | rfl <;> rfl
theorem acs_one (l : List Ac) : ∀ u ∈ acs l, u.oneCell' = true := by
 intro u h
 simp only [acs, List.mem_flatten, List.mem_map] at h
 obtain ⟨_, ⟨x, _, rfl⟩, h⟩ := h
 simp [Ac.cells] at h
 rcases h with rfl | rfl | rfl | rfl | rfl | rfl <;> rfl
theorem bools_len (l : List Bool) : (bools l).length = l.length * 1 := by simp [bools]
theorem ints_len2 (l : List Int) : (ints l).length = l.length * 1 := by simp [ints]
theorem vrs_len (l : List Vr) : (vrs l).length = l.length * 3 := by
 induction l with
 | nil => rfl
 | cons x l ih => simp only [vrs, List.map_cons, List.flatten_cons, List.length_append, List.length_cons] at ih ⊢; rw [ih]; simp [Vr.cells]; omega
theorem acs_len (l : List Ac) : (acs l).length = l.length * 6 := by
 induction l with
 | nil => rfl
 | cons x l ih => simp only [acs, List.map_cons, List.flatten_cons, List.length_append, List.length_cons] at ih ⊢; rw [ih]; simp [Ac.cells]; omega
abbrev nil5 : Array Value := #[.slice none 0 0, .slice none 0 0, .slice none 0 0, .slice none 0 0, .slice none 0 0]
/-! region 1: four copies and a plan -/
def K1 (p : Nat) (g v t m : Value) : Nat → Option Value
 | 0 => some (.pointer (some ⟨p, 0, none⟩))
 | 1 => some g
 | 3 => some (.pointer (some ⟨p, 1, none⟩))
 | 4 => some v
 | 6 => some (.pointer (some ⟨p, 2, none⟩))
 | 7 => some t
 | 9 => some (.pointer (some ⟨p, 4, none⟩))
 | 10 => some m
 | _ => none
structure J1 (W1 : World) (P : Pl) (p : Nat) (g v t m : Value) (S : Nat → Bool) (vs : Nat → Value) (w : World) : Prop where
 k : ∀ i c, K1 p g v t m i = some c → S i = true → vs i = c
 b : Below W1.heap.size W1 w
 s2 : S 2 = true → w.ownsRow W1.heap.size 4 1 (vs 2) P.gh.length (bools P.gh)
 s5 : S 5 = true → w.ownsRow W1.heap.size 51 3 (vs 5) P.vs.length (vrs P.vs)
 s8 : S 8 = true → w.ownsRow W1.heap.size 3 1 (vs 8) P.ts.length (ints P.ts)
 s11 : S 11 = true → w.ownsRow W1.heap.size 49 6 (vs 11) P.ms.length (acs P.ms)
 s12 : S 12 = true → vs 12 = .agg #[vs 2, vs 5, vs 8, .slice none 0 0, vs 11]
 s13 : S 13 = true → ∃ q, vs 13 = .pointer (some ⟨q, 0, none⟩) ∧ W1.heap.size ≤ q ∧ (S 14 = false → Blk w q 28 nil5) ∧ (S 14 = true → Blk w q 28 #[vs 2, vs 5, vs 8, .slice none 0 0, vs 11])
section
variable {W1 w w' : World} {P : Pl} {p : Nat} {g v t m c u : Value} {S : Nat → Bool} {vs : Nat → Value} {j : Nat}
theorem J1.kn (h : J1 W1 P p g v t m S vs w) {j : Nat} {c : Value} (hj : ∀ d, K1 p g v t m j = some d → c = d) : ∀ i d, K1 p g v t m i = some d → upn S j true i = true → upn vs j c i = d := by
 intro i d hk hS
 by_cases hkj : i = j
 · subst hkj
   rw [upn_eq]
   exact hj d hk
 · rw [upn_ne hkj] at hS ⊢
   exact h.k i d hk hS
/-- what a step that only makes memory keeps -/
theorem J1.step (h : J1 W1 P p g v t m S vs w) (hS : S 14 = false) (hj : j ≠ 14) (hk : ∀ d, K1 p g v t m j = some d → u = d) (hb : Below w.heap.size w w')
   (n2 : j = 2 → w'.ownsRow W1.heap.size 4 1 u P.gh.length (bools P.gh)) (n5 : j = 5 → w'.ownsRow W1.heap.size 51 3 u P.vs.length (vrs P.vs)) (n8 : j = 8 → w'.ownsRow W1.heap.size 3 1 u P.ts.length (ints P.ts)) (n11 : j = 11 → w'.ownsRow W1.heap.size 49 6 u P.ms.length (acs P.ms))
   (n12 : (j = 12 → u = .agg #[vs 2, vs 5, vs 8, .slice none 0 0, vs 11]) ∧ (S 12 = true → j ≠ 2 ∧ j ≠ 5 ∧ j ≠ 8 ∧ j ≠ 11)) (n13 : j = 13 → ∃ q, u = .pointer (some ⟨q, 0, none⟩) ∧ W1.heap.size ≤ q ∧ Blk w' q 28 nil5) : J1 W1 P p g v t m (upn S j true) (upn vs j u) w' := by
 have hlow : ∀ {e : TypeId} {size n : Nat} {x : Value} {xs : List Value}, w.ownsRow W1.heap.size e size x n xs → w'.ownsRow W1.heap.size e size x n xs := fun h9 => own_below h9 hb (Nat.le_refl _)
 have h14 : upn S j true 14 = false := by rw [upn_ne (Ne.symm hj)]; exact hS
 refine ⟨h.kn hk, h.b.trans (hb.mono h.b.size), fun h9 => ?_, fun h9 => ?_, fun h9 => ?_, fun h9 => ?_, fun h9 => ?_, fun h9 => ?_⟩
 · by_cases e : 2 = j
   · subst e; rw [upn_eq]; exact n2 rfl
   · rw [upn_ne e] at h9 ⊢; exact hlow (h.s2 h9)
 · by_cases e : 5 = j
   · subst e; rw [upn_eq]; exact n5 rfl
   · rw [upn_ne e] at h9 ⊢; exact hlow (h.s5 h9)
 · by_cases e : 8 = j
   · subst e; rw [upn_eq]; exact n8 rfl
   · rw [upn_ne e] at h9 ⊢; exact hlow (h.s8 h9)
 · by_cases e : 11 = j
   · subst e; rw [upn_eq]; exact n11 rfl
   · rw [upn_ne e] at h9 ⊢; exact hlow (h.s11 h9)
 · by_cases e : 12 = j
   · subst e
     rw [upn_eq, upn_ne (by decide : (2 : Nat) ≠ 12), upn_ne (by decide : (5 : Nat) ≠ 12), upn_ne (by decide : (8 : Nat) ≠ 12), upn_ne (by decide : (11 : Nat) ≠ 12)]
     exact n12.1 rfl
   · rw [upn_ne e] at h9 ⊢
     obtain ⟨a1, a2, a3, a4⟩ := n12.2 h9
     rw [upn_ne (Ne.symm a1), upn_ne (Ne.symm a2), upn_ne (Ne.symm a3), upn_ne (Ne.symm a4)]
     exact h.s12 h9
 · by_cases e : 13 = j
   · subst e
     rw [upn_eq]
     obtain ⟨q, h1, h2, h3⟩ := n13 rfl
     exact ⟨q, h1, h2, fun _ => h3, fun h8 => (by rw [h14] at h8; cases h8)⟩
   · rw [upn_ne e] at h9 ⊢
     obtain ⟨q, h1, h2, h3, _⟩ := h.s13 h9
     exact ⟨q, h1, h2, fun _ => (h3 hS).below hb (h3 hS).lt, fun h8 => (by rw [h14] at h8; cases h8)⟩
theorem J1.known (h : J1 W1 P p g v t m S vs w) (h14 : S 14 = false) (hj : j ≠ 14 ∧ j ≠ 2 ∧ j ≠ 5 ∧ j ≠ 8 ∧ j ≠ 11 ∧ j ≠ 12 ∧ j ≠ 13) (hk : K1 p g v t m j = some u) : J1 W1 P p g v t m (upn S j true) (upn vs j u) w :=
 h.step h14 hj.1 (fun d hd => by rw [hk] at hd; injection hd) (Below.refl _ _) (fun e => absurd e hj.2.1) (fun e => absurd e hj.2.2.1) (fun e => absurd e hj.2.2.2.1) (fun e => absurd e hj.2.2.2.2.1) ⟨fun e => absurd e hj.2.2.2.2.2.1, fun _ => ⟨hj.2.1, hj.2.2.1, hj.2.2.2.1, hj.2.2.2.2.1⟩⟩ (fun e => absurd e hj.2.2.2.2.2.2)
theorem J1.c2 (h : J1 W1 P p g v t m S vs w) (h14 : S 14 = false) (h12 : S 12 = false) (ho : w'.ownsRow w.heap.size 4 1 u P.gh.length (bools P.gh)) (hb : Below w.heap.size w w') : J1 W1 P p g v t m (upn S 2 true) (upn vs 2 u) w' :=
 h.step h14 (by decide) (fun d hd => by simp [K1] at hd) hb (fun _ => own_down ho h.b.size) (fun e => by cases e) (fun e => by cases e) (fun e => by cases e) ⟨fun e => (by cases e), fun e => (by rw [h12] at e; cases e)⟩ (fun e => by cases e)
theorem J1.c5 (h : J1 W1 P p g v t m S vs w) (h14 : S 14 = false) (h12 : S 12 = false) (ho : w'.ownsRow w.heap.size 51 3 u P.vs.length (vrs P.vs)) (hb : Below w.heap.size w w') : J1 W1 P p g v t m (upn S 5 true) (upn vs 5 u) w' :=
 h.step h14 (by decide) (fun d hd => by simp [K1] at hd) hb (fun e => by cases e) (fun _ => own_down ho h.b.size) (fun e => by cases e) (fun e => by cases e) ⟨fun e => (by cases e), fun e => (by rw [h12] at e; cases e)⟩ (fun e => by cases e)
theorem J1.c8 (h : J1 W1 P p g v t m S vs w) (h14 : S 14 = false) (h12 : S 12 = false) (ho : w'.ownsRow w.heap.size 3 1 u P.ts.length (ints P.ts)) (hb : Below w.heap.size w w') : J1 W1 P p g v t m (upn S 8 true) (upn vs 8 u) w' :=
 h.step h14 (by decide) (fun d hd => by simp [K1] at hd) hb (fun e => by cases e) (fun e => by cases e) (fun _ => own_down ho h.b.size) (fun e => by cases e) ⟨fun e => (by cases e), fun e => (by rw [h12] at e; cases e)⟩ (fun e => by cases e)
theorem J1.c11 (h : J1 W1 P p g v t m S vs w) (h14 : S 14 = false) (h12 : S 12 = false) (ho : w'.ownsRow w.heap.size 49 6 u P.ms.length (acs P.ms)) (hb : Below w.heap.size w w') : J1 W1 P p g v t m (upn S 11 true) (upn vs 11 u) w' :=
 h.step h14 (by decide) (fun d hd => by simp [K1] at hd) hb (fun e => by cases e) (fun e => by cases e) (fun e => by cases e) (fun _ => own_down ho h.b.size) ⟨fun e => (by cases e), fun e => (by rw [h12] at e; cases e)⟩ (fun e => by cases e)
theorem J1.c12 (h : J1 W1 P p g v t m S vs w) (h14 : S 14 = false) : J1 W1 P p g v t m (upn S 12 true) (upn vs 12 (.agg #[vs 2, vs 5, vs 8, .slice none 0 0, vs 11])) w :=
 h.step h14 (by decide) (fun d hd => by simp [K1] at hd) (Below.refl _ _) (fun e => by cases e) (fun e => by cases e) (fun e => by cases e) (fun e => by cases e) ⟨fun _ => rfl, fun _ => by decide⟩ (fun e => by cases e)
theorem J1.c13 (h : J1 W1 P p g v t m S vs w) (h14 : S 14 = false) : J1 W1 P p g v t m (upn S 13 true) (upn vs 13 (.pointer (some ⟨w.heap.size, 0, none⟩))) (w.alloc (.cells nil5 28)) :=
 h.step h14 (by decide) (fun d hd => by simp [K1] at hd) ((Below.refl _ w).alloc (Nat.le_refl _) _) (fun e => by cases e) (fun e => by cases e) (fun e => by cases e) (fun e => by cases e) ⟨fun e => (by cases e), fun _ => by decide⟩ (fun _ => ⟨_, rfl, h.b.size, Blk.new _ _ _⟩)
theorem J1.st (h : J1 W1 P p g v t m S vs w) (h14 : S 14 = false) (hall : S 2 = true ∧ S 5 = true ∧ S 8 = true ∧ S 11 = true ∧ S 12 = true ∧ S 13 = true) {q : Nat} (hq : vs 13 = .pointer (some ⟨q, 0, none⟩)) :
   J1 W1 P p g v t m (upn S 14 true) (upn vs 14 c) (((((w.setCell ⟨q, 0, none⟩ (vs 2)).setCell ⟨q, 1, none⟩ (vs 5)).setCell ⟨q, 2, none⟩ (vs 8)).setCell ⟨q, 3, none⟩ (.slice none 0 0)).setCell ⟨q, 4, none⟩ (vs 11)) := by
 obtain ⟨q', e1, e2, e3, _⟩ := h.s13 hall.2.2.2.2.2
 have e0 : q' = q := by
   rw [e1] at hq
   injection hq with hq
   injection hq with hq
   injection hq
 subst e0
 have hbk := e3 h14
 have hne : ∀ (k : Nat), k ≠ 14 → upn vs 14 c k = vs k := fun k hk => upn_ne hk
 have hSe : ∀ (k : Nat), k ≠ 14 → upn S 14 true k = S k := fun k hk => upn_ne hk
 have ho : Only (fun k => k = q') w (((((w.setCell ⟨q', 0, none⟩ (vs 2)).setCell ⟨q', 1, none⟩ (vs 5)).setCell ⟨q', 2, none⟩ (vs 8)).setCell ⟨q', 3, none⟩ (.slice none 0 0)).setCell ⟨q', 4, none⟩ (vs 11)) :=
   (((((Only.refl (fun k => k = q') w).setCell (p := ⟨q', 0, none⟩) (.inl rfl) _).setCell (p := ⟨q', 1, none⟩) (.inl rfl) _).setCell (p := ⟨q', 2, none⟩) (.inl rfl) _).setCell (p := ⟨q', 3, none⟩) (.inl rfl) _).setCell (p := ⟨q', 4, none⟩) (.inl rfl) _
 have hrow : ∀ {e : TypeId} {size n : Nat} {x : Value} {xs : List Value}, e ≠ 28 → w.ownsRow W1.heap.size e size x n xs → (((((w.setCell ⟨q', 0, none⟩ (vs 2)).setCell ⟨q', 1, none⟩ (vs 5)).setCell ⟨q', 2, none⟩ (vs 8)).setCell ⟨q', 3, none⟩ (.slice none 0 0)).setCell ⟨q', 4, none⟩ (vs 11)).ownsRow W1.heap.size e size x n xs :=
   fun hd h9 => own_only h9 ho (fun k hk hk2 => own_blk_ne h9 hbk hd (by rw [hk, hk2]))
 refine ⟨h.kn (fun d hd => by simp [K1] at hd), ?_, fun _ => ?_, fun _ => ?_, fun _ => ?_, fun _ => ?_, fun _ => ?_, fun _ => ?_⟩
 · exact h.b.trans (ho.below (fun k hk => by rw [hk]; exact e2) h.b.size)
 · rw [hne 2 (by decide)]; exact hrow (by decide) (h.s2 hall.1)
 · rw [hne 5 (by decide)]; exact hrow (by decide) (h.s5 hall.2.1)
 · rw [hne 8 (by decide)]; exact hrow (by decide) (h.s8 hall.2.2.1)
 · rw [hne 11 (by decide)]; exact hrow (by decide) (h.s11 hall.2.2.2.1)
 · rw [hne 12 (by decide), hne 2 (by decide), hne 5 (by decide), hne 8 (by decide), hne 11 (by decide)]; exact h.s12 hall.2.2.2.2.1
 · refine ⟨q', by rw [hne 13 (by decide)]; exact e1, e2, fun h9 => (by rw [upn_eq] at h9; cases h9), fun _ => ?_⟩
   rw [hne 2 (by decide), hne 5 (by decide), hne 8 (by decide), hne 11 (by decide)]
   exact ((((hbk.set_ 0 (vs 2)).set_ 1 (vs 5)).set_ 2 (vs 8)).set_ 3 (.slice none 0 0)).set_ 4 (vs 11)
theorem J1.start (W1 : World) (P : Pl) (p : Nat) (g v t m : Value) (vs : Nat → Value) : J1 W1 P p g v t m (fun i => decide (15 ≤ i)) vs W1.drew := by
 refine ⟨fun k c hk hS => ?_, (Below.refl _ W1).drew, fun h9 => ?_, fun h9 => ?_, fun h9 => ?_, fun h9 => ?_, fun h9 => ?_, fun h9 => ?_⟩
 · simp at hS
   obtain ⟨m, rfl⟩ : ∃ m, k = m + 15 := ⟨k - 15, by omega⟩
   simp [K1] at hk
 all_goals simp at h9
end
/-! region 5: a copy of a row, laid behind the others -/
def K5 (q : Nat) (o x : Value) : Nat → Option Value
 | 0 => some (.pointer (some ⟨q, 3, none⟩))
 | 1 => some o
 | 2 => some x
 | 6 => some (.pointer (some ⟨q, 3, none⟩))
 | _ => none
/-- behind the append -/
structure App5 (W : World) (B q n : Nat) (o : Value) (us : List Value) (l : List Ac) (x y : Value) (w : World) : Prop where
 e : ∃ w5, Below W.heap.size W w5 ∧ w5.ownsRow W.heap.size 49 6 x l.length (acs l) ∧ w5.grownBy w o.ownBlock
 r : w.ownsRow B 26 1 y (n + 1) (us ++ [x])
 a : y.ownBlock = o.ownBlock ∨ ∃ k, y.ownBlock = some k ∧ W.heap.size ≤ k
structure J5 (W : World) (B q n : Nat) (o s : Value) (us : List Value) (l : List Ac) (S : Nat → Bool) (vs : Nat → Value) (w : World) : Prop where
 k : ∀ i c, K5 q o s i = some c → S i = true → vs i = c
 b : S 5 = false → Below W.heap.size W w
 s3 : S 3 = true → S 5 = false → w.ownsRow W.heap.size 49 6 (vs 3) l.length (acs l)
 s4 : S 4 = true → S 5 = false → ∃ g, vs 4 = .slice (some ⟨g, 0, none⟩) 1 1 ∧ w.cell? ⟨g, 0, none⟩ = some (vs 3) ∧ g < w.heap.size
 s5 : S 5 = true → ∃ w6, App5 W B q n o us l (vs 3) (vs 5) w6 ∧ (S 7 = false → w = w6) ∧ (S 7 = true → w = w6.setCell ⟨q, 3, none⟩ (vs 5))
section
variable {W w w' : World} {B q n : Nat} {o s u c : Value} {us : List Value} {l : List Ac} {S : Nat → Bool} {vs : Nat → Value} {j : Nat}
theorem J5.kn (h : J5 W B q n o s us l S vs w) {j : Nat} {c : Value} (hj : ∀ d, K5 q o s j = some d → c = d) : ∀ i d, K5 q o s i = some d → upn S j true i = true → upn vs j c i = d := by
 intro i d hk hS
 by_cases hkj : i = j
 · subst hkj
   rw [upn_eq]
   exact hj d hk
 · rw [upn_ne hkj] at hS ⊢
   exact h.k i d hk hS
theorem J5.known (h : J5 W B q n o s us l S vs w) (hj : j ≠ 3 ∧ j ≠ 4 ∧ j ≠ 5 ∧ j ≠ 7) (hk : K5 q o s j = some u) : J5 W B q n o s us l (upn S j true) (upn vs j u) w := by
 obtain ⟨h3, h4, h5, h7⟩ := hj
 refine ⟨h.kn (fun d hd => by rw [hk] at hd; injection hd), fun h9 => ?_, fun h8 h9 => ?_, fun h8 h9 => ?_, fun h9 => ?_⟩
 · rw [upn_ne (Ne.symm h5)] at h9; exact h.b h9
 · rw [upn_ne (Ne.symm h5)] at h9; rw [upn_ne (Ne.symm h3)] at h8 ⊢; exact h.s3 h8 h9
 · rw [upn_ne (Ne.symm h5)] at h9; rw [upn_ne (Ne.symm h4)] at h8 ⊢; rw [upn_ne (Ne.symm h3)]; exact h.s4 h8 h9
 · rw [upn_ne (Ne.symm h5)] at h9 ⊢; rw [upn_ne (Ne.symm h3), upn_ne (Ne.symm h7)]; exact h.s5 h9
theorem J5.c3 (h : J5 W B q n o s us l S vs w) (h5 : S 5 = false) (h4 : S 4 = false) (ho : w'.ownsRow w.heap.size 49 6 u l.length (acs l)) (hb : Below w.heap.size w w') : J5 W B q n o s us l (upn S 3 true) (upn vs 3 u) w' := by
 refine ⟨h.kn (fun d hd => by simp [K5] at hd), fun _ => (h.b h5).trans (hb.mono (h.b h5).size), fun _ _ => ?_, fun h8 _ => ?_, fun h9 => ?_⟩
 · rw [upn_eq]; exact own_down ho (h.b h5).size
 · rw [upn_ne (by decide : (4 : Nat) ≠ 3), h4] at h8; cases h8
 · rw [upn_ne (by decide : (5 : Nat) ≠ 3), h5] at h9; cases h9
theorem J5.c4 (h : J5 W B q n o s us l S vs w) (h5 : S 5 = false) (h3 : S 3 = true) : J5 W B q n o s us l (upn S 4 true) (upn vs 4 (.slice (some ⟨w.heap.size, 0, none⟩) 1 1)) (w.alloc (.cells #[vs 3] 26)) := by
 refine ⟨h.kn (fun d hd => by simp [K5] at hd), fun _ => (h.b h5).alloc (h.b h5).size _, fun _ _ => ?_, fun _ _ => ?_, fun h9 => ?_⟩
 · rw [upn_ne (by decide : (3 : Nat) ≠ 4)]; exact own_al' (h.s3 h3 h5)
 · rw [upn_eq, upn_ne (by decide : (3 : Nat) ≠ 4)]
   exact ⟨_, rfl, (Blk.new w 26 #[vs 3]).cell 0, by simp⟩
 · rw [upn_ne (by decide : (5 : Nat) ≠ 4), h5] at h9; cases h9
theorem J5.c5 (h : J5 W B q n o s us l S vs w) (h5 : S 5 = false) (h7 : S 7 = false) (h3 : S 3 = true) (hown : w'.ownsRow B 26 1 u (n + 1) (us ++ [vs 3])) (hg : w.grownBy w' o.ownBlock) (hat : u.ownBlock = o.ownBlock ∨ u.ownBlock = some w.heap.size) : J5 W B q n o s us l (upn S 5 true) (upn vs 5 u) w' := by
 refine ⟨h.kn (fun d hd => by simp [K5] at hd), fun h9 => ?_, fun _ h9 => ?_, fun _ h9 => ?_, fun _ => ⟨w', ⟨⟨w, h.b h5, ?_, hg⟩, ?_, ?_⟩, fun _ => rfl, fun h9 => ?_⟩⟩
 · rw [upn_eq] at h9; cases h9
 · rw [upn_eq] at h9; cases h9
 · rw [upn_eq] at h9; cases h9
 · rw [upn_ne (by decide : (3 : Nat) ≠ 5)]; exact h.s3 h3 h5
 · rw [upn_ne (by decide : (3 : Nat) ≠ 5), upn_eq]; exact hown
 · rw [upn_eq]
   rcases hat with h9 | h9
   · exact .inl h9
   · exact .inr ⟨_, h9, (h.b h5).size⟩
 · rw [upn_ne (by decide : (7 : Nat) ≠ 5), h7] at h9; cases h9
theorem J5.c7 (h : J5 W B q n o s us l S vs w) (h5 : S 5 = true) (h7 : S 7 = false) : J5 W B q n o s us l (upn S 7 true) (upn vs 7 c) (w.setCell ⟨q, 3, none⟩ (vs 5)) := by
 refine ⟨h.kn (fun d hd => by simp [K5] at hd), fun h9 => ?_, fun _ h9 => ?_, fun _ h9 => ?_, fun _ => ?_⟩
 · rw [upn_ne (by decide : (5 : Nat) ≠ 7), h5] at h9; cases h9
 · rw [upn_ne (by decide : (5 : Nat) ≠ 7), h5] at h9; cases h9
 · rw [upn_ne (by decide : (5 : Nat) ≠ 7), h5] at h9; cases h9
 · obtain ⟨w6, ha, h1, _⟩ := h.s5 h5
   refine ⟨w6, by rw [upn_ne (by decide : (3 : Nat) ≠ 7), upn_ne (by decide : (5 : Nat) ≠ 7)]; exact ha, fun h9 => (by rw [upn_eq] at h9; cases h9), fun _ => ?_⟩
   rw [h1 h7, upn_ne (by decide : (5 : Nat) ≠ 7)]
theorem J5.mid (h : J5 W B q n o s us l S vs w) (h5 : S 5 = true) (h7 : S 7 = false) : App5 W B q n o us l (vs 3) (vs 5) w := by
 obtain ⟨w6, ha, h1, _⟩ := h.s5 h5
 rw [h1 h7]
 exact ha
theorem J5.fin (h : J5 W B q n o s us l (fun _ => true) vs w) : ∃ x y w6, App5 W B q n o us l x y w6 ∧ w = w6.setCell ⟨q, 3, none⟩ y := by
 obtain ⟨w6, ha, _, h2⟩ := h.s5 rfl
 exact ⟨_, _, w6, ha, h2 rfl⟩
theorem J5.start (W : World) (B q n : Nat) (o s : Value) (us : List Value) (l : List Ac) (vs : Nat → Value) : J5 W B q n o s us l (fun i => decide (8 ≤ i)) vs W.drew := by
 refine ⟨fun k c hk hS => ?_, fun _ => (Below.refl _ W).drew, fun h9 _ => ?_, fun h9 _ => ?_, fun h9 => ?_⟩
 · simp at hS
   obtain ⟨m, rfl⟩ : ∃ m, k = m + 8 := ⟨k - 8, by omega⟩
   simp [K5] at hk
 all_goals simp at h9
end
end Go.Proofs.Ytdpokdcendgfeaa
namespace Go.Proofs.Ytdpokdcendgfeaa
open Go.RowKit
theorem one_cellJ {w : World} {g : Nat} {x : Value} (h : w.cell? ⟨g, 0, none⟩ = some x) : ∀ j u, [x][j]? = some u → w.cell? ((⟨g, 0, none⟩ : Addr).add j) = some u := by
 intro j u hj
 obtain rfl : j = 0 := by have := (List.getElem?_eq_some_iff.1 hj).1; simp at this; exact this
 simp at hj
 subst hj
 exact h
/-- the copy under way: i events are copied -/
structure Tw (W1 : World) (P : Pl) (qb : Nat) (g v t m o : Value) (i : Nat) (us : List Value) (w : World) : Prop where
 k : Blk w qb 28 #[g, v, t, o, m]
 q : W1.heap.size ≤ qb
 g1 : w.ownsRow W1.heap.size 4 1 g P.gh.length (bools P.gh)
 v1 : w.ownsRow W1.heap.size 51 3 v P.vs.length (vrs P.vs)
 t1 : w.ownsRow W1.heap.size 3 1 t P.ts.length (ints P.ts)
 m1 : w.ownsRow W1.heap.size 49 6 m P.ms.length (acs P.ms)
 o1 : w.ownsRow W1.heap.size 26 1 o i us
 e1 : ∀ (k : Nat) (l : List Ac), k < i → P.on[k]? = some l → ∃ u, us[k]? = some u ∧ w.ownsRow W1.heap.size 49 6 u l.length (acs l)
 b : Below W1.heap.size W1 w
theorem Tw.next {W1 w w6 : World} {P : Pl} {qb i : Nat} {g v t m o x y : Value} {us : List Value} {l : List Ac} (h : Tw W1 P qb g v t m o i us w) (hl : P.on[i]? = some l) (ha : App5 w W1.heap.size qb i o us l x y w6) :
   Tw W1 P qb g v t m y (i + 1) (us ++ [x]) (w6.setCell ⟨qb, 3, none⟩ y) := by
 obtain ⟨⟨w5, hb5, hx5, hg⟩, hr, hat⟩ := ha
 have hob := own_blk_ne h.o1 h.k (by decide)
 have h5 : ∀ {e : TypeId} {size n : Nat} {z : Value} {xs : List Value}, e ≠ 26 → w5.ownsRow W1.heap.size e size z n xs → w6.ownsRow W1.heap.size e size z n xs := fun he h9 => by
   have ho5 := own_below h.o1 hb5 (Nat.le_refl _)
   exact own_keep h9 (fun k hk => hg.block k (h9.lt k hk).2 (fun h8 => own_own_ne h9 ho5 he k hk h8.symm))
 have hk5 : Blk w5 qb 28 #[g, v, t, o, m] := h.k.below hb5 h.k.lt
 have hk6 : Blk w6 qb 28 #[g, v, t, o, m] := hk5.grown hg (fun e => hob e.symm)
 have h7 : ∀ {e : TypeId} {size n : Nat} {z : Value} {xs : List Value}, e ≠ 28 → w6.ownsRow W1.heap.size e size z n xs → (w6.setCell ⟨qb, 3, none⟩ y).ownsRow W1.heap.size e size z n xs := fun he h9 => own_far h9 (own_blk_ne h9 hk6 he) _
 have hall : ∀ {e : TypeId} {size n : Nat} {z : Value} {xs : List Value}, e ≠ 26 → e ≠ 28 → w.ownsRow W1.heap.size e size z n xs → (w6.setCell ⟨qb, 3, none⟩ y).ownsRow W1.heap.size e size z n xs := fun he he2 h9 => h7 he2 (h5 he (own_below h9 hb5 (Nat.le_refl _)))
 refine ⟨hk6.set_ 3 y, h.q, hall (by decide) (by decide) h.g1, hall (by decide) (by decide) h.v1, hall (by decide) (by decide) h.t1, hall (by decide) (by decide) h.m1, h7 (by decide) hr, fun k l' hk hl' => ?_, ?_⟩
 · have hul : us.length = i := by have := h.o1.1; omega
   by_cases hki : k < i
   · obtain ⟨u, hu, h9⟩ := h.e1 k l' hki hl'
     exact ⟨u, by rw [List.getElem?_append_left (by omega)]; exact hu, hall (by decide) (by decide) h9⟩
   · obtain rfl : k = i := by omega
     rw [hl] at hl'
     injection hl' with hl'
     subst hl'
     refine ⟨x, by rw [List.getElem?_append_right (by omega)]; simp [hul], h7 (by decide) (h5 (by decide) (own_down hx5 h.b.size))⟩
 · have hb6 : Below W1.heap.size w5 w6 := below_grow hg (fun k hk => (h.o1.lt k hk).1) (Nat.le_trans h.b.size hb5.size)
   exact ((h.b.trans (hb5.mono h.b.size)).trans hb6).setCell h.q y
theorem twin_fin {w0 W1 w : World} {P : Pl} {qb B N : Nat} {g v t m o a b c d e : Value} {us : List Value} (h : Tw W1 P qb g v t m o N us w) (hk : Blk W1 (B + 1) 28 #[.slice none 0 0, .slice none 0 0, .slice none 0 0, .slice none 0 0, .slice none 0 0]) (hB : B ≤ B) (hW : B ≤ W1.heap.size) (hb : Below B w0 w) :
   (fun w' : World => w'.ownsRow B 4 1 g P.gh.length (bools P.gh) ∧ w'.ownsRow B 51 3 v P.vs.length (vrs P.vs) ∧ w'.ownsRow B 3 1 t P.ts.length (ints P.ts) ∧ w'.ownsRow B 26 1 o N us ∧
     (∀ (i : Nat) (l : List Ac), i < N → P.on[i]? = some l → ∃ u, us[i]? = some u ∧ w'.ownsRow B 49 6 u l.length (acs l)) ∧ w'.ownsRow B 49 6 m P.ms.length (acs P.ms) ∧ Below B w0 w')
   (((((w.setCell ⟨B + 1, 0, none⟩ a).setCell ⟨B + 1, 1, none⟩ b).setCell ⟨B + 1, 2, none⟩ c).setCell ⟨B + 1, 3, none⟩ d).setCell ⟨B + 1, 4, none⟩ e) := by
 have hlt := hk.lt
 have ho : Only (fun k => k = B + 1) w (((((w.setCell ⟨B + 1, 0, none⟩ a).setCell ⟨B + 1, 1, none⟩ b).setCell ⟨B + 1, 2, none⟩ c).setCell ⟨B + 1, 3, none⟩ d).setCell ⟨B + 1, 4, none⟩ e) :=
   (((((Only.refl (fun k => k = B + 1) w).setCell (p := ⟨B + 1, 0, none⟩) (.inl rfl) _).setCell (p := ⟨B + 1, 1, none⟩) (.inl rfl) _).setCell (p := ⟨B + 1, 2, none⟩) (.inl rfl) _).setCell (p := ⟨B + 1, 3, none⟩) (.inl rfl) _).setCell (p := ⟨B + 1, 4, none⟩) (.inl rfl) _
 have hall : ∀ {e' : TypeId} {size n : Nat} {z : Value} {xs : List Value}, w.ownsRow W1.heap.size e' size z n xs → (((((w.setCell ⟨B + 1, 0, none⟩ a).setCell ⟨B + 1, 1, none⟩ b).setCell ⟨B + 1, 2, none⟩ c).setCell ⟨B + 1, 3, none⟩ d).setCell ⟨B + 1, 4, none⟩ e).ownsRow B e' size z n xs :=
   fun h9 => own_down (own_only h9 ho (fun k hk hk2 => by have := (h9.lt k hk).1; omega)) hW
 refine ⟨hall h.g1, hall h.v1, hall h.t1, hall h.o1, fun i l hi hl => ?_, hall h.m1, ?_⟩
 · obtain ⟨u, hu, h9⟩ := h.e1 i l hi hl
   exact ⟨u, hu, hall h9⟩
 · exact hb.trans (ho.below (fun k hk => by omega) (by have := h.b.size; omega))
end Go.Proofs.Ytdpokdcendgfeaa
