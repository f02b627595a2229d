/- Several texts in one: The walk of GenMakes. Conditions: those of each. -/
import Derived.Test.YtdpokdcendgfeaaZ31
import Derived.Test.YtdpokdcendgfeaaZ15
import Derived.StillTailTactics
set_option linter.unusedSimpArgs false
set_option linter.unusedVariables false
set_option maxHeartbeats 40000000
namespace Go.Proofs.Ytdpokdcendgfeaa
open Go.RowKit
set_option maxRecDepth 100000 in
theorem genMakes_i (w : World) (q : PlV) (P : Pl) (rs : List (Option Addr × Nat)) (h : PlMem w q P rs) (hl : P.gh.length ≤ 1048576 ∧ P.vs.length ≤ 1048576 ∧ P.ts.length ≤ 1048576 ∧ P.on.length ≤ 1048576) (hbig : ∀ l ∈ P.on ++ [P.ms], l.length ≤ 1048576) :
   Calls Try.prog 3 #[q.val] w fun en w' => en = .returned (.bool true) ∧ Below w.heap.size w w' := by
 have hb2 : ∀ l ∈ P.on ++ [P.ms], l.length ≤ 4398046511104 := fun l h => Nat.le_trans (hbig l h) (by decide)
 have HLG := hide (fun (W : World) (hb : Below w.heap.size w W) => large_i W q P rs (h.below hb) hb2 (Nat.le_trans hl.2.2.2 (by decide)))
 have HLP := hide (fun (W : World) (hb : Below w.heap.size w W) => lendPlan_i W q P rs (h.below hb) hl hbig)
 have HMR := hide (fun (W : World) (hb : Below w.heap.size w W) => makeR_i W q P rs (h.below hb) hbig hl.2.2.2)
 have HKP := hide (fun (W : World) (B gg gv gt gl gm : Nat) (es : List Nat) (hlt : LentP W B gg gv gt gl gm es P) (hb : Below w.heap.size w W) (hB : w.heap.size ≤ B) => keptPlan_i w W B gg gv gt gl gm es q P rs hlt h hb hB hl hbig)
 have HMK := hide (fun (W : World) (B gg gv gt gl gm : Nat) (es : List Nat) (hlt : LentP W B gg gv gt gl gm es P) => make_i W (lentPl gg gv gt gl gm P) P (lrs es P.on) (hlt.mem ⟨Nat.le_trans hl.1 (by unfold maxLen; decide), Nat.le_trans hl.2.1 (by unfold maxLen; decide), Nat.le_trans hl.2.2.1 (by unfold maxLen; decide), Nat.le_trans hl.2.2.2 (by unfold maxLen; decide)⟩ hb2) hb2)
 obtain ⟨e1, e2, e3, e4, e5, _, _, _, _, _, _⟩ := h
 obtain ⟨ga, va, ta, oa, ma, gl, gc, vl, vc, tl, tc, ol, oc, ml, mc⟩ := q
 simp only at e1 e2 e3 e4 e5
 subst e1 e2 e3 e4 e5
 simp only [PlV.val, lentPl] at HLG HLP HMR HKP HMK ⊢
 have HW1 := hide (show Below w.heap.size w (w.alloc (.cells #[.slice ga P.gh.length gc, .slice va P.vs.length vc, .slice ta P.ts.length tc, .slice oa P.on.length oc, .slice ma P.ms.length mc] 28)) from (Below.refl _ w).alloc (Nat.le_refl _) _)
 have HP1 := hide (Blk.new w 28 #[.slice ga P.gh.length gc, .slice va P.vs.length vc, .slice ta P.ts.length tc, .slice oa P.on.length oc, .slice ma P.ms.length mc])
 clear hbig hl hb2
 go_enter Try.func3, Try.ntmps3
 go_upto_region 1 with fail
 generalize w.alloc (.cells #[.slice ga P.gh.length gc, .slice va P.vs.length vc, .slice ta P.ts.length tc, .slice oa P.on.length oc, .slice ma P.ms.length mc] 28) = W1 at HW1 HP1
 have hc := known_i W1
 go_upto_region 3 with (
   go_at_call 12
   with_reducible refine hc.mono ?_
   rintro en W2 ⟨rfl, hb2⟩
   have HB2 := hide hb2
   clear hb2)
 have HW2 := hide (HW1.out.trans (HB2.out.mono HW1.out.size))
 have HP2 := hide (HP1.out.below HB2.out HP1.out.lt)
 clear hc HB2 HW1 HP1
 obtain ⟨p0, p1, p2, p3, p4, pl⟩ := blk5' HP2.out
 have hc := HLG.out W2 HW2.out
 by_cases hlg : 524288 < sizeP P
 · have hd : decide (524288 < sizeP P) = true := by simp [hlg]
   rw [hd] at hc
   clear hlg hd
   go_upto_region 4 with (
     go_at_call 13
     with_reducible refine hc.mono ?_
     rintro en W3 ⟨rfl, hb3⟩
     have HB3 := hide hb3
     clear hb3)
   go_wp2_with fail
   go_ret
   exact ⟨rfl, HW2.out.trans (HB3.out.mono HW2.out.size)⟩
 have hd : decide (524288 < sizeP P) = false := by simp; omega
 rw [hd] at hc
 clear hlg hd
 go_upto_region 5 with (
   go_at_call 13
   with_reducible refine hc.mono ?_
   rintro en W3 ⟨rfl, hb3⟩
   have HB3 := hide hb3
   clear hb3)
 have HW3 := hide (HW2.out.trans (HB3.out.mono HW2.out.size))
 have HP3 := hide (HP2.out.below HB3.out HP2.out.lt)
 clear hc HB3 HW2 HP2 p0 p1 p2 p3 p4 pl HLG
 obtain ⟨p0, p1, p2, p3, p4, pl⟩ := blk5' HP3.out
 have hc := HLP.out W3 HW3.out
 go_upto_region 6 with (
   go_at_call 14
   with_reducible refine hc.mono ?_
   rintro en W4 ⟨gg, gv, gt, gl, gm, es, rfl, hlt, hb4⟩
   have HLT := hide hlt
   have HB4 := hide hb4
   clear hlt hb4)
 clear hc p0 p1 p2 p3 p4 pl HLP
 have HB5 := hide ((Below.refl W4.heap.size W4).alloc (Nat.le_refl _) (.cells #[.slice (some ⟨gg, 0, none⟩) P.gh.length (P.gh.length + 3), .slice (some ⟨gv, 0, none⟩) P.vs.length (P.vs.length + 3), .slice (some ⟨gt, 0, none⟩) P.ts.length (P.ts.length + 5), .slice (some ⟨gl, 0, none⟩) P.on.length (P.on.length + 2), .slice (some ⟨gm, 0, none⟩) P.ms.length (P.ms.length + 9)] 28))
 have HM5 := hide (Blk.new W4 28 #[.slice (some ⟨gg, 0, none⟩) P.gh.length (P.gh.length + 3), .slice (some ⟨gv, 0, none⟩) P.vs.length (P.vs.length + 3), .slice (some ⟨gt, 0, none⟩) P.ts.length (P.ts.length + 5), .slice (some ⟨gl, 0, none⟩) P.on.length (P.on.length + 2), .slice (some ⟨gm, 0, none⟩) P.ms.length (P.ms.length + 9)])
 have HB35 := hide (HB4.out.trans (HB5.out.mono HB4.out.size))
 have HLT5 := hide (HLT.out.below HB5.out)
 generalize W4.alloc (.cells #[.slice (some ⟨gg, 0, none⟩) P.gh.length (P.gh.length + 3), .slice (some ⟨gv, 0, none⟩) P.vs.length (P.vs.length + 3), .slice (some ⟨gt, 0, none⟩) P.ts.length (P.ts.length + 5), .slice (some ⟨gl, 0, none⟩) P.on.length (P.on.length + 2), .slice (some ⟨gm, 0, none⟩) P.ms.length (P.ms.length + 9)] 28) = W5 at HB5 HM5 HB35 HLT5
 have HP5 := hide (HP3.out.below HB35.out HP3.out.lt)
 have HW5 := hide (HW3.out.trans (HB35.out.mono HW3.out.size))
 have HSZ := hide (show w.heap.size ≤ W3.heap.size from HW3.out.size)
 have HX4 := hide (show W4.heap.size < W5.heap.size from HM5.out.lt)
 clear HB5 HB4 HLT HB35 HW3 HP3
 obtain ⟨m0, m1, m2, m3, m4, ml⟩ := blk5' HM5.out
 have hc := HMK.out W5 W3.heap.size gg gv gt gl gm es HLT5.out
 go_upto_region 7 with (
   go_at_call 15
   with_reducible refine hc.mono ?_
   intro en W6 hmk
   obtain ⟨hb6, xv, rfl, hxk⟩ := hmk.kept
   have HB6 := hide hb6
   have HXK := hide hxk
   simp only [PV.val]
   clear hmk hb6 hxk)
 clear hc m0 m1 m2 m3 m4 ml HMK
 have HB7 := hide ((Below.refl W6.heap.size W6).alloc (Nat.le_refl _) (.cells #[.slice xv.ga xv.gl xv.gc, .slice xv.va xv.vl xv.vc, .slice xv.ta xv.tl xv.tc, .slice xv.oa xv.ol xv.oc, .int .i64 xv.miss, .slice xv.ca xv.cl xv.cc] 34))
 have HX7 := hide (Blk.new W6 34 #[.slice xv.ga xv.gl xv.gc, .slice xv.va xv.vl xv.vc, .slice xv.ta xv.tl xv.tc, .slice xv.oa xv.ol xv.oc, .int .i64 xv.miss, .slice xv.ca xv.cl xv.cc])
 generalize W6.alloc (.cells #[.slice xv.ga xv.gl xv.gc, .slice xv.va xv.vl xv.vc, .slice xv.ta xv.tl xv.tc, .slice xv.oa xv.ol xv.oc, .int .i64 xv.miss, .slice xv.ca xv.cl xv.cc] 34) = W7 at HB7 HX7
 have HB57 := hide (HB6.out.trans (HB7.out.mono HB6.out.size))
 have HM7 := hide (HM5.out.below HB57.out HM5.out.lt)
 have HP7 := hide (HP5.out.below HB57.out HP5.out.lt)
 have HLT7 := hide (HLT5.out.below HB57.out)
 have HW7 := hide (HW5.out.trans (HB57.out.mono HW5.out.size))
 clear HM5 HP5 HW5
 obtain ⟨p0, p1, p2, p3, p4, pl⟩ := blk5' HP7.out
 have hc := HMR.out W7 HW7.out
 go_upto_region 8 with (
   go_at_call 16
   with_reducible refine hc.mono ?_
   intro en W8 hmk
   obtain ⟨hb8, yv, rfl, hyk⟩ := hmk.kept
   have HB8 := hide hb8
   have HYK := hide hyk
   simp only [PV.val]
   clear hmk hb8 hyk)
 clear hc p0 p1 p2 p3 p4 pl HMR
 have HB9 := hide ((Below.refl W8.heap.size W8).alloc (Nat.le_refl _) (.cells #[.slice yv.ga yv.gl yv.gc, .slice yv.va yv.vl yv.vc, .slice yv.ta yv.tl yv.tc, .slice yv.oa yv.ol yv.oc, .int .i64 yv.miss, .slice yv.ca yv.cl yv.cc] 34))
 have HY9 := hide (Blk.new W8 34 #[.slice yv.ga yv.gl yv.gc, .slice yv.va yv.vl yv.vc, .slice yv.ta yv.tl yv.tc, .slice yv.oa yv.ol yv.oc, .int .i64 yv.miss, .slice yv.ca yv.cl yv.cc])
 generalize W8.alloc (.cells #[.slice yv.ga yv.gl yv.gc, .slice yv.va yv.vl yv.vc, .slice yv.ta yv.tl yv.tc, .slice yv.oa yv.ol yv.oc, .int .i64 yv.miss, .slice yv.ca yv.cl yv.cc] 34) = W9 at HB9 HY9
 have HB79 := hide (HB8.out.trans (HB9.out.mono HB8.out.size))
 have HM9 := hide (HM7.out.below HB79.out HM7.out.lt)
 have HP9 := hide (HP7.out.below HB79.out HP7.out.lt)
 have HX9 := hide (HX7.out.below HB79.out HX7.out.lt)
 have HLT9 := hide (HLT7.out.below HB79.out)
 have HW9 := hide (HW7.out.trans (HB79.out.mono HW7.out.size))
 have HLO := hide (fun (k : Nat) (hk : (LentS gg gv gt gl gm es) k) => HLT5.out.lt hk)
 have HX7s := hide (show W6.heap.size < W7.heap.size from HX7.out.lt)
 clear HM7 HP7 HX7 HLT7 HW7
 obtain ⟨p0, p1, p2, p3, p4, pl⟩ := blk5' HP9.out
 obtain ⟨m0, m1, m2, m3, m4, ml⟩ := blk5' HM9.out
 have hc := HKP.out W9 W3.heap.size gg gv gt gl gm es HLT9.out HW9.out HSZ.out
 have HSX := hide (show W5.heap.size ≤ W6.heap.size ∧ W6.heap.size < W7.heap.size ∧ W7.heap.size ≤ W8.heap.size from ⟨HB6.out.size, HX7s.out, HB8.out.size⟩)
 have hxb : ∀ W, Only (LentS gg gv gt gl gm es) W9 W → Blk W W6.heap.size 34 #[.slice xv.ga xv.gl xv.gc, .slice xv.va xv.vl xv.vc, .slice xv.ta xv.tl xv.tc, .slice xv.oa xv.ol xv.oc, .int .i64 xv.miss, .slice xv.ca xv.cl xv.cc] ∧ Blk W W8.heap.size 34 #[.slice yv.ga yv.gl yv.gc, .slice yv.va yv.vl yv.vc, .slice yv.ta yv.tl yv.tc, .slice yv.oa yv.ol yv.oc, .int .i64 yv.miss, .slice yv.ca yv.cl yv.cc] := fun W ho => ⟨HX9.out.only ho (fun hk => by have := (HLO.out _ hk).2; have := HSX.out; omega), HY9.out.only ho (fun hk => by have := (HLO.out _ hk).2; have := HSX.out; omega)⟩
 have HXB := hide hxb
 have hxm : ∀ W, Only (LentS gg gv gt gl gm es) W9 W → Calls Try.prog 18 #[xv.val, yv.val] W fun en w' => en = .returned (.bool true) ∧ Below W.heap.size W w' := fun W ho => sameProgram_i W xv yv (progOf P)
   (HXK.out (fun k => (LentS gg gv gt gl gm es) k ∨ W6.heap.size ≤ k) W (((Only.of_new HB7.out).trans (Only.of_new (HB79.out))).trans2 (T := (LentS gg gv gt gl gm es)) ho (fun k hk => .inl (.inl hk))) (fun k hk => by
     rcases hk with hk | hk
     · have := (HLO.out k hk).2; omega
     · exact .inr hk))
   (HYK.out (fun k => (LentS gg gv gt gl gm es) k ∨ W8.heap.size ≤ k) W ((Only.of_new HB9.out).trans2 (T := (LentS gg gv gt gl gm es)) ho (fun k hk => .inl (.inl hk))) (fun k hk => by
     rcases hk with hk | hk
     · have := (HLO.out k hk).2; have := HSX.out; omega
     · exact .inr hk))
 simp only [PV.val] at hxm
 have HXM := hide hxm
 clear hxb hxm
 go_wp2_with (
   go_at_call 17
   with_reducible refine hc.mono ?_
   rintro en Wa ⟨rfl, ho⟩
   have HO := hide ho
   obtain ⟨bx, by9⟩ := HXB.out Wa ho
   obtain ⟨x0, x1, x2, x3, x4, x5, xl⟩ := blk6 bx
   obtain ⟨y0, y1, y2, y3, y4, y5, yl⟩ := blk6 by9
   have hcm := HXM.out Wa ho
   clear ho bx by9)
 go_wp2_with (
   go_at_call 18
   with_reducible refine hcm.mono ?_
   rintro en Wb ⟨rfl, hbb⟩
   have HBB := hide hbb
   clear hbb)
 go_ret
 exact ⟨rfl, HW9.out.trans ((HO.out.below (fun k hk => Nat.le_trans HSZ.out (HLO.out k hk).1) HW9.out.size).trans (HBB.out.mono (Nat.le_trans HW9.out.size HO.out.size)))⟩
end Go.Proofs.Ytdpokdcendgfeaa
