/- Several texts in one: The walk of the reference's all: the program of a plan. The walks of the reference's Make and Origin. Conditions: those of each. -/
import Derived.Test.YtdpokdcendgfeaaZ28
import Derived.Test.YtdpokdcendgfeaaZ27
import Derived.Test.YtdpokdcendgfeaaZ24
import Derived.Test.YtdpokdcendgfeaaZ12
set_option linter.unusedSimpArgs false
set_option linter.unusedVariables false
set_option maxHeartbeats 40000000
namespace Go.Proofs.Ytdpokdcendgfeaa
open Go.RowKit
def AllTold (w : World) (P : Pl) (en : Ending) (w' : World) : Prop := Below w.heap.size w w' ∧ (checkV P ≠ 0 → en = .returned (.tuple #[.pointer none, .int .i64 (checkV P : Int)])) ∧
 (checkV P = 0 → ∃ (mb B : Nat) (v : Nat → Value), w.heap.size ≤ B ∧ en = .returned (.tuple #[.pointer (some ⟨mb, 0, none⟩), .int .i64 0]) ∧ Md w' B mb (makeC P).2 v (sOf P (makeC P).1))
/-- all rows of the program are as long as its code -/
def EvenM (m : Mk) : Prop := m.ev.length = m.cd.length ∧ m.rw.length = m.cd.length
theorem even_add {m : Mk} (h : EvenM m) (n : Int) (l : List Ac) : EvenM (m.add n l).1 := by
 unfold Mk.add
 split
 · exact h
 · obtain ⟨h1, h2⟩ := h
   simp only [EvenM, List.length_append, List.length_map, List.length_replicate]
   omega
theorem even_adds : ∀ (ls : List (List Ac)) (m : Mk) (i : Nat), EvenM m → EvenM (Mk.adds m i ls)
 | [], m, i, h => h
 | l :: ls, m, i, h => even_adds ls _ _ (even_add h i l)
set_option maxRecDepth 100000 in
theorem all_i (w : World) (q : PlV) (P : Pl) (rs : List (Option Addr × Nat)) (h : PlMem w q P rs) (hbig : ∀ l ∈ P.on ++ [P.ms], l.length ≤ 1048576) (hl : P.on.length ≤ 1048576) :
   Calls Try.prog 44 #[q.val] w (AllTold w P) := by
 have HM0 := hide h
 have HBIG := hide hbig
 have HCK := hide (fun (W : World) (hb : Below w.heap.size w W) => checkR_i W q P rs (h.below hb) hbig hl)
 have HOV := hide (fun (W : World) (hb : Below w.heap.size w W) (i : Nat) (l : List Ac) (hi : P.on[i]? = some l) => (h.below hb).ev hi)
 have HMS := hide (fun (W : World) (hb : Below w.heap.size w W) => (h.below hb).miss)
 obtain ⟨e1, e2, e3, e4, e5, _, _, _, _, _, l1, l2, l3, l4⟩ := h
 obtain ⟨ga, va, ta, oa, ma, gl, gc, vl, vc, tl, tc, ol, oc, ml, mc⟩ := q
 simp only at e1 e2 e3 e4 e5
 subst e1 e2 e3 e4 e5
 simp only [PlV.val] at HCK ⊢
 simp only at HOV HMS
 unfold maxLen at l1 l2 l3 l4
 obtain ⟨N, hN⟩ : ∃ N, P.on.length = N := ⟨_, rfl⟩
 obtain ⟨M, hM⟩ : ∃ M, P.ms.length = M := ⟨_, rfl⟩
 have HN := hide hN
 have HMM := hide hM
 rw [hN] at HCK l4 hl ⊢
 rw [hM] at HCK HMS ⊢
 have HP := HM0
 have HB1 := hide ((Below.refl w.heap.size w).alloc (Nat.le_refl _) (.cells #[.slice ga P.gh.length gc, .slice va P.vs.length vc, .slice ta P.ts.length tc, .slice oa N oc, .slice ma M mc] 28))
 have HK1 := hide (Blk.new w 28 #[.slice ga P.gh.length gc, .slice va P.vs.length vc, .slice ta P.ts.length tc, .slice oa N oc, .slice ma M mc])
 obtain ⟨W1, hW1⟩ : ∃ W1, w.alloc (.cells #[.slice ga P.gh.length gc, .slice va P.vs.length vc, .slice ta P.ts.length tc, .slice oa N oc, .slice ma M mc] 28) = W1 := ⟨_, rfl⟩
 have HW1 := hide hW1
 rw [hW1] at HB1 HK1
 have HC1 := hide (HCK.out W1 HB1.out)
 obtain ⟨ck, hck⟩ : ∃ ck, checkV P = ck := ⟨_, rfl⟩
 rw [hck] at HC1
 have HCKV := hide hck
 clear hbig hW1 hN hM HCK hck
 go_enter Try.func44, Try.ntmps44
 go_upto_region 1 with fail
 rw [HW1.out]
 obtain ⟨b0, b1, b2, b3, b4, hpb⟩ := blk5' HK1.out
 go_wp2_with fail
 go_at_call 30
 refine HC1.out.mono ?_
 rintro en W2 ⟨rfl, hb2⟩
 have HB2 := hide (HB1.out.trans (hb2.mono HB1.out.size))
 have HK2 := hide (HK1.out.below hb2 HK1.out.lt)
 clear hb2 b0 b1 b2 b3 b4 hpb
 by_cases hc0 : ck = 0
 case neg =>
   have hcb : ((ck : Int) != 0) = true := by simp; omega
   have hcI : ¬ (ck : Int) = 0 := by omega
   have HC0 := hide hc0
   clear hc0
   go_wp2_with fail
   go_ret2
   exact ⟨HB2.out, fun _ => by rw [HCKV.out]; first | done | rfl, fun h9 => absurd (HCKV.out.symm.trans h9) HC0.out⟩
 subst hc0
 obtain ⟨k1, k2, k3, k4, k5, kR⟩ := check_zero HCKV.out
 have HKR := hide kR
 have HK5 := hide k5
 rw [HN.out] at k4
 have hN16 : N ≤ 16 := by omega
 clear kR k5 k4
 obtain ⟨i0, hi0, hz0, hs0, hb0⟩ := info_parts3 infB
 obtain ⟨i1, hi1, hz1, hs1, hb1⟩ := info_parts3 infV
 obtain ⟨i2, hi2, hz2, hs2, hb2⟩ := info_parts3 infI
 have hB := HB2.out.alloc HB2.out.size (.cells #[.slice none 0 0, .slice none 0 0, .slice none 0 0, .slice none 0 0, .int .i64 0, .slice none 0 0, .slice none 0 0, .slice none 0 0] 80)
 have hkp := HK2.out.alloc (.cells #[.slice none 0 0, .slice none 0 0, .slice none 0 0, .slice none 0 0, .int .i64 0, .slice none 0 0, .slice none 0 0, .slice none 0 0] 80)
 have hmd := md_new W2 P.on P.ms
 go_upto_region 5 with fail
 obtain ⟨W3, hW3⟩ : ∃ W3, W2.alloc (.cells #[.slice none 0 0, .slice none 0 0, .slice none 0 0, .slice none 0 0, .int .i64 0, .slice none 0 0, .slice none 0 0, .slice none 0 0] 80) = W3 := ⟨_, rfl⟩
 obtain ⟨B, hBB⟩ : ∃ B, W2.heap.size = B := ⟨_, rfl⟩
 rw [hW3] at hB hkp hmd ⊢
 rw [hBB] at hmd ⊢
 have HB3 := hide hB
 have HKP3 := hide hkp
 have HM3 := hide hmd
 have HBL := hide (show w.heap.size ≤ B by rw [← hBB]; exact HB2.out.size)
 have HPL := hide (show w.heap.size < B by rw [← hBB]; exact HK2.out.lt)
 obtain ⟨⟨m0, m1, m2, m3, -, -, -, -⟩, mf⟩ := hmd.cells
 obtain ⟨b0, b1, b2, b3, b4, hpb⟩ := blk5' hkp
 have hmb := hmd.k.lt
 clear hW3 hBB hB hkp hmd mf HK2 HB2 HC1 HB1 HK1
 go_cut [23] from 15 to 26 (fun s9 wx => ∃ v', Md wx B B 0 v' (sOf ⟨P.gh, [], [], P.on, P.ms⟩ ⟨[], [], [], []⟩) ∧ Below B W3 wx)
 case first =>
   go_region_law (refine step_mdk 0 (by decide) (by decide) HM3.out (Below.refl _ W3).drew rfl (.tmp 20) (.tmp 22) 22 rfl i0 _ 1 Try.underlying22 hi0 hz0 hs0 hb0 rfl (by show 0 < 1; decide) (by simp [Act.eval, Act.put]) ga P.gh.length gc (bools P.gh) ((HP.out.below HB3.out).g.below (Below.refl _ W3).drew) (by simp [Act.eval, Act.put]) (bools_len _) (bools_one _) (by show 0 + P.gh.length ≤ maxLen; unfold maxLen; omega) (by show (0 + P.gh.length) * 1 ≤ _; omega) ?_
                  rintro ob cb w5 hout
                  have HOUT := hide hout
                  have z5 := hout.ce
                  have z6 := hout.fz
                  have z7 := hout.lt
                  clear hout)
   all_goals
     try simp only [List.getElem_toArray, List.getElem_cons_succ, List.getElem_cons_zero, Act.put, List.setIfInBounds_toArray, List.set_cons_zero, List.set_cons_succ]
     go_wp2_with fail
     go_meet
     case rel => exact ⟨_, by have h9 := HOUT.out.md; exact (sOf_g (P := ⟨[], [], [], P.on, P.ms⟩) P.gh) ▸ h9, HOUT.out.bw⟩
 case rest =>
   clear m0 m1 m2 m3 b0 b1 b2 b3 b4 hmb hpb
   obtain ⟨v4, hm, hb⟩ := hcut
   rename World => W4
   have HM4 := hide hm
   have HB4 := hide (HB3.out.trans (hb.mono HBL.out))
   have HKP4 := hide (HKP3.out.below hb HPL.out)
   obtain ⟨⟨m0, m1, m2, m3, -, -, -, -⟩, -⟩ := hm.cells
   obtain ⟨b0, b1, b2, b3, b4, hpb⟩ := blk5' HKP4.out
   have hmb := hm.k.lt
   clear hm hb HM3 HKP3 HB3
   go_upto_region 6 with fail
   go_cut [35] from 27 to 38 (fun s9 wx => ∃ v', Md wx B B 0 v' (sOf ⟨P.gh, P.vs, [], P.on, P.ms⟩ ⟨[], [], [], []⟩) ∧ Below B W4 wx)
   case first =>
     go_region_law (refine step_mdk 1 (by decide) (by decide) HM4.out (Below.refl _ W4).drew rfl (.tmp 32) (.tmp 34) 23 rfl i1 _ 24 Try.underlying23 hi1 hz1 hs1 hb1 rfl (by show 0 < 3; decide) (by simp [Act.eval, Act.put]) va P.vs.length vc (vrs P.vs) ((HP.out.below HB4.out).v.below (Below.refl _ W4).drew) (by simp [Act.eval, Act.put]) (vrs_len _) (vrs_one _) (by show 0 + P.vs.length ≤ maxLen; unfold maxLen; omega) (by show (0 + P.vs.length) * 24 ≤ _; omega) ?_
                    rintro ob cb w5 hout
                    have HOUT := hide hout
                    have z5 := hout.ce
                    have z6 := hout.fz
                    have z7 := hout.lt
                    clear hout)
     all_goals
       try simp only [List.getElem_toArray, List.getElem_cons_succ, List.getElem_cons_zero, Act.put, List.setIfInBounds_toArray, List.set_cons_zero, List.set_cons_succ]
       go_wp2_with fail
       go_meet
       case rel => exact ⟨_, by have h9 := HOUT.out.md; exact (sOf_v (P := ⟨P.gh, [], [], P.on, P.ms⟩) P.vs) ▸ h9, HOUT.out.bw⟩
   case rest =>
     clear m0 m1 m2 m3 b0 b1 b2 b3 b4 hmb hpb
     obtain ⟨v5, hm, hb⟩ := hcut
     rename World => W5
     have HM5 := hide hm
     have HB5 := hide (HB4.out.trans (hb.mono HBL.out))
     have HKP5 := hide (HKP4.out.below hb HPL.out)
     obtain ⟨⟨m0, m1, m2, m3, -, -, -, -⟩, -⟩ := hm.cells
     obtain ⟨b0, b1, b2, b3, b4, hpb⟩ := blk5' HKP5.out
     have hmb := hm.k.lt
     clear hm hb HM4 HKP4 HB4
     go_upto_region 7 with fail
     go_cut [47] from 39 to 50 (fun s9 wx => ∃ v', Md wx B B 0 v' (sOf P ⟨[], [], [], []⟩) ∧ Below B W5 wx)
     case first =>
       go_region_law (refine step_mdk 2 (by decide) (by decide) HM5.out (Below.refl _ W5).drew rfl (.tmp 44) (.tmp 46) 24 rfl i2 _ 8 Try.underlying24 hi2 hz2 hs2 hb2 rfl (by show 0 < 1; decide) (by simp [Act.eval, Act.put]) ta P.ts.length tc (ints P.ts) ((HP.out.below HB5.out).t.below (Below.refl _ W5).drew) (by simp [Act.eval, Act.put]) (ints_len2 _) (ints_one2 _) (by show 0 + P.ts.length ≤ maxLen; unfold maxLen; omega) (by show (0 + P.ts.length) * 8 ≤ _; omega) ?_
                      rintro ob cb w5 hout
                      have HOUT := hide hout
                      have z5 := hout.ce
                      have z6 := hout.fz
                      have z7 := hout.lt
                      clear hout)
       all_goals
         try simp only [List.getElem_toArray, List.getElem_cons_succ, List.getElem_cons_zero, Act.put, List.setIfInBounds_toArray, List.set_cons_zero, List.set_cons_succ]
         go_wp2_with fail
         go_meet
         case rel => exact ⟨_, by have h9 := HOUT.out.md; exact (sOf_t (P := ⟨P.gh, P.vs, [], P.on, P.ms⟩) P.ts) ▸ h9, HOUT.out.bw⟩
     case rest =>
       clear m0 m1 m2 m3 b0 b1 b2 b3 b4 hmb hpb
       obtain ⟨v6, hm, hb⟩ := hcut
       rename World => W6
       have HM6 := hide hm
       have HB6 := hide (HB5.out.trans (hb.mono HBL.out))
       have HKP6 := hide (HKP5.out.below hb HPL.out)
       obtain ⟨⟨m0, m1, m2, m3, -, -, -, -⟩, -⟩ := hm.cells
       obtain ⟨b0, b1, b2, b3, b4, hpb⟩ := blk5' HKP6.out
       have hmb := hm.k.lt
       clear hm hb HM5 HKP5 HB5
       go_upto_region 8 with fail
       go_wp2_with fail
       go_loopw [6] (fun t6 W => ∃ (i : Nat) (v : Nat → Value), t6 = .int .i64 (i : Int) ∧ i ≤ N ∧ Md W B B 0 v (sOf P (Mk.adds ⟨[], [], [], []⟩ 0 (P.on.take i))) ∧ Below w.heap.size w W ∧ Blk W w.heap.size 28 #[.slice ga P.gh.length gc, .slice va P.vs.length vc, .slice ta P.ts.length tc, .slice oa N oc, .slice ma M mc]) (fun t6 _ => N - (intOf t6).toNat)
       case atStart => exact ⟨0, v6, rfl, Nat.zero_le _, HM6.out, HB6.out, HKP6.out⟩
       case round =>
         clear m0 m1 m2 m3 b0 b1 b2 b3 b4 hmb hpb HM6 HB6 HKP6
         obtain ⟨i, v, rfl, hi, hm, hb, hk⟩ := hrel
         rename World => W
         have HM := hide hm
         have HB := hide hb
         have HK := hide hk
         have u1 := IntWalk.i64_in ((i : Int) + 1) (by omega)
         have hi0' : (0 : Int) ≤ (i : Int) := by omega
         obtain ⟨b0, b1, b2, b3, b4, hpb⟩ := blk5' hk
         have hln := adds_len (P := P) (ls := P.on) (fun l hl => HKR.out l (List.mem_append_left _ hl)) i (by rw [HN.out]; exact hi)
         have hev : EvenM (Mk.adds ⟨[], [], [], []⟩ 0 (P.on.take i)) := even_adds _ _ _ ⟨rfl, rfl⟩
         have hrv := rowsV_le P.on i
         have h5 := HK5.out
         rw [rowsV_append] at h5
         have hol := adds_on_len (P.on.take i) ⟨[], [], [], []⟩ 0
         have htl : (P.on.take i).length ≤ 16 := by rw [List.length_take, HN.out]; omega
         simp only [List.length_nil, Nat.zero_add] at hol
         by_cases hlt : i < N
         · have hltI : (i : Int) < (N : Int) := by omega
           obtain ⟨l, hl⟩ : ∃ l, P.on[i]? = some l := ⟨_, List.getElem?_eq_getElem (by rw [HN.out]; exact hlt)⟩
           obtain ⟨oe, ce, -, hs, ad, e, hab, cl⟩ := HOV.out _ hb i l hl
           subst e
           have hll : l.length ≤ 131072 := Nat.le_trans (rowsV_one hl) (by omega)
           have HNX := hide (adds_take hl ⟨[], [], [], []⟩)
           obtain ⟨m, hmm⟩ : ∃ m, Mk.adds ⟨[], [], [], []⟩ 0 (P.on.take i) = m := ⟨_, rfl⟩
           rw [hmm] at HM hln hev hol HNX
           obtain ⟨hev1, hev2⟩ := hev
           have hcd : m.cd.length ≤ 4000000 ∧ m.ev.length ≤ 4000000 ∧ m.rw.length ≤ 4000000 := ⟨by omega, by omega, by omega⟩
           have HAD := hide (add_i (P := P) (fun l f => code_all f) W B B 0 v m HM.out (i : Int) oe ce l hs (fun h0 => HKR.out l (List.mem_append_left _ (List.mem_of_getElem? hl)) h0) hll hcd)
           have hon : m.on.length + 1 ≤ 1048576 := by omega
           have HON := hide (show ((sOf P (m.add i l).1) 3).n + 1 ≤ 1048576 by show (m.add i l).1.on.length + 1 ≤ 1048576; rw [add_on]; exact hon)
           obtain ⟨r1, hr1⟩ : ∃ r1, m.add (i : Int) l = r1 := ⟨_, rfl⟩
           have HR1 := hide hr1
           rw [hr1] at HAD HON
           clear hl hs hab hll hmm hln hev1 hev2 hcd hrv h5 hol htl hm hb hk hon hr1
           go_wp2_with fail
           go_at_call 72
           refine HAD.out.mono ?_
           rintro en w4 ⟨v4, rfl, hm4, hb4⟩
           have HM4 := hide hm4
           have HB4 := hide (HB.out.trans (hb4.mono HBL.out))
           have HK4 := hide (HK.out.below hb4 HPL.out)
           obtain ⟨⟨-, -, -, m3, -, -, -, -⟩, -⟩ := hm4.cells
           have hmb := hm4.k.lt
           clear hm4 hb4 cl b0 b1 b2 b3 b4 hpb
           go_wp2_with (at_builtin
                        refine wp_md 3 (by decide) (by decide) HM4.out ((Below.refl _ w4).alloc (Nat.le_refl _) _) rfl (.tmp 71) (.tmp 73) 24 rfl i2 _ 8 Try.underlying24 hi2 hz2 hs2 hb2 rfl (by show 0 < 1; decide) rfl w4.heap.size 1 3 #[.int .i64 r1.2] (Blk.new w4 3 _) rfl rfl (by simp [Value.oneCell']) (Nat.le_trans HON.out (by decide)) (Nat.le_trans (Nat.mul_le_mul_right 8 HON.out) (by decide)) ?_
                        rintro oa' ca' w5 hout
                        have HOUT := hide hout
                        have z5 := hout.ce
                        have z6 := hout.fz
                        have z7 := hout.lt
                        clear hout)
           go_roundw
           case rel =>
             refine ⟨i + 1, upd v4 3 (.slice oa' ((sOf P r1.1 3).n + 1) ca'), by go_num, by omega, ?_, HB4.out.trans (HOUT.out.bw.mono HBL.out), HK4.out.below HOUT.out.bw HPL.out⟩
             rw [HNX.out, show m.more (i : Int) l = { r1.1 with on := r1.1.on ++ [r1.2] } by unfold Mk.more; rw [HR1.out]]
             rw [← sOf_on (P := P) (m := r1.1) r1.2]
             exact HOUT.out.md
           case measure =>
             simp only [intOf]
             omega
         · have hltI : ¬ (i : Int) < (N : Int) := by omega
           obtain rfl : i = N := by omega
           have HTK : Hid (P.on.take i = P.on) := hide (by rw [← HN.out, List.take_length])
           rw [HTK.out] at HM hln hev hrv
           obtain ⟨m, hmm⟩ : ∃ m, Mk.adds ⟨[], [], [], []⟩ 0 P.on = m := ⟨_, rfl⟩
           have HMK : Hid (makeC P = m.add (-1) P.ms) := hide (by unfold makeC; rw [hmm])
           rw [hmm] at HM hln hev
           obtain ⟨hev1, hev2⟩ := hev
           rw [rowsV_one', HMM.out] at h5
           have hcd : m.cd.length ≤ 4000000 ∧ m.ev.length ≤ 4000000 ∧ m.rw.length ≤ 4000000 := ⟨by omega, by omega, by omega⟩
           have hsm := HMS.out W hb
           have HAD0 := add_i (P := P) (fun l f => code_all f) W B B 0 v m HM.out (-1) ma mc P.ms (by rw [HMM.out]; exact hsm) (fun h0 => HKR.out P.ms (by simp) h0) (by rw [HMM.out]; omega) hcd
           rw [HMM.out, ← HMK.out] at HAD0
           have HAD := hide HAD0
           clear HAD0 hsm hmm hln hev1 hev2 hcd hrv h5 hol htl hm hb hk
           go_wp2_with fail
           go_at_call 72
           refine HAD.out.mono ?_
           rintro en w4 ⟨v4, rfl, hm4, hb4⟩
           have HMI := hide (hm4.miss (makeC P).2)
           have HB4 := hide (HB.out.trans (hb4.mono HBL.out))
           obtain ⟨⟨-, -, -, -, m4, -, -, -⟩, mf⟩ := hm4.cells
           have mf4 := mf 4
           have hmb := hm4.k.lt
           clear hm4 hb4 b0 b1 b2 b3 b4 hpb mf
           go_wp2_with fail
           go_ret2
           exact ⟨HB4.out.trans (HMI.out.2.mono HBL.out), fun h9 => absurd HCKV.out h9, fun _ => ⟨B, B, v4, HBL.out, rfl, HMI.out.1⟩⟩
end Go.Proofs.Ytdpokdcendgfeaa
namespace Go.Proofs.Ytdpokdcendgfeaa
open Go.RowKit
theorem md_prog {W : World} {B mb : Nat} {ms : Int} {v : Nat → Value} {P : Pl} {m : Mk} (h : Md W B mb ms v (sOf P m)) : ProgIs W B (.agg #[v 0, v 1, v 2, v 3, .int .i64 ms, v 5]) P.gh P.vs P.ts m.on ms m.cd := by
 have h0 := h.o 0 (by decide) (by decide)
 have h1 := h.o 1 (by decide) (by decide)
 have h2 := h.o 2 (by decide) (by decide)
 have h3 := h.o 3 (by decide) (by decide)
 have h5 := h.o 5 (by decide) (by decide)
 exact ⟨⟨_, _, _, _, _, rfl, h0, h1, h2, h3, h5, h.a 2 3 (by decide) (by decide) (by decide) (by decide) (by decide)⟩⟩
theorem make_cd {P : Pl} (h : checkV P = 0) : (makeC P).1.cd.length ≤ 1048576 ∧ (makeC P).1.ev.length = (makeC P).1.cd.length ∧ (makeC P).1.rw.length = (makeC P).1.cd.length := by
 obtain ⟨k1, k2, k3, k4, k5, kR⟩ := check_zero h
 have h1 := adds_len (P := P) (ls := P.on) (fun l hl => kR l (List.mem_append_left _ hl)) P.on.length (Nat.le_refl _)
 rw [List.take_length] at h1
 have h2 := more_len (m := Mk.adds ⟨[], [], [], []⟩ 0 P.on) (n := -1) (kR P.ms (by simp))
 have h3 := even_add (even_adds P.on ⟨[], [], [], []⟩ 0 ⟨rfl, rfl⟩) (-1) P.ms
 rw [rowsV_append, rowsV_one'] at k5
 refine ⟨?_, h3.1, h3.2⟩
 show ((Mk.adds ⟨[], [], [], []⟩ 0 P.on).add (-1) P.ms).1.cd.length ≤ 1048576
 omega
set_option maxRecDepth 100000 in
theorem makeR_i (w : World) (q : PlV) (P : Pl) (rs : List (Option Addr × Nat)) (h : PlMem w q P rs) (hbig : ∀ l ∈ P.on ++ [P.ms], l.length ≤ 1048576) (hl : P.on.length ≤ 1048576) :
   Calls Try.prog 16 #[q.val] w fun en w' => MakeP w P en w' := by
 have HRES := hide (show Try.f16.results = #[.cell 2 34, .tmp 3] by kernel_rfl)
 have HMK := hide (fun (W : World) (hb : Below w.heap.size w W) => all_i W q P rs (h.below hb) hbig hl)
 obtain ⟨e1, e2, e3, e4, e5, _, _, _, _, _, _⟩ := h
 obtain ⟨ga, va, ta, oa, ma, gl, gc, vl, vc, tl, tc, ol, oc, ml, mc⟩ := q
 simp only at e1 e2 e3 e4 e5
 subst e1 e2 e3 e4 e5
 simp only [PlV.val] at HMK ⊢
 have hw1 : Below w.heap.size w ((w.alloc (.cells #[.slice ga P.gh.length gc, .slice va P.vs.length vc, .slice ta P.ts.length tc, .slice oa P.on.length oc, .slice ma P.ms.length mc] 28)).alloc (.cells #[.slice none 0 0, .slice none 0 0, .slice none 0 0, .slice none 0 0, .int .i64 0, .slice none 0 0] 34)) := ((Below.refl _ w).alloc (Nat.le_refl _) _).alloc (by simp) _
 have hp1 := (Blk.new w 28 #[.slice ga P.gh.length gc, .slice va P.vs.length vc, .slice ta P.ts.length tc, .slice oa P.on.length oc, .slice ma P.ms.length mc]).alloc (.cells #[.slice none 0 0, .slice none 0 0, .slice none 0 0, .slice none 0 0, .int .i64 0, .slice none 0 0] 34)
 have ho1 := blk_new2 w (.cells #[.slice ga P.gh.length gc, .slice va P.vs.length vc, .slice ta P.ts.length tc, .slice oa P.on.length oc, .slice ma P.ms.length mc] 28) 34 #[.slice none 0 0, .slice none 0 0, .slice none 0 0, .slice none 0 0, .int .i64 0, .slice none 0 0]
 have HW1 := hide hw1
 have HP1 := hide hp1
 have HO1 := hide ho1
 clear hw1 hp1 ho1
 go_enter Try.func16, Try.ntmps16
 go_upto_region 1 with fail
 generalize ((w.alloc (.cells #[.slice ga P.gh.length gc, .slice va P.vs.length vc, .slice ta P.ts.length tc, .slice oa P.on.length oc, .slice ma P.ms.length mc] 28)).alloc (.cells #[.slice none 0 0, .slice none 0 0, .slice none 0 0, .slice none 0 0, .int .i64 0, .slice none 0 0] 34)) = W1 at HW1 HP1 HO1
 obtain ⟨p0, p1, p2, p3, p4, _⟩ := blk5 HP1.out
 go_wp2_with fail
 go_at_call 44
 refine (HMK.out W1 HW1.out).mono ?_
 rintro en W2 ⟨hb2, hbad, hgood⟩
 have HB2 := hide hb2
 have HO2 := hide (HO1.out.below hb2 HO1.out.lt)
 have HLO := hide (show w.heap.size + 1 < W1.heap.size from HO1.out.lt)
 obtain ⟨z0, z1, z2, z3, z4, z5, y0, y1, y2, y3, y4, y5⟩ := blk6 HO2.out
 have hlt2 := HO2.out.lt
 clear hb2 p0 p1 p2 p3 p4 HMK
 by_cases h0 : checkV P = 0
 case neg =>
   have HE := hide (hbad h0)
   have he := HE.out
   subst he
   have HN0 := hide h0
   obtain ⟨ck, hck⟩ : ∃ ck, (checkV P : Int) = ck := ⟨_, rfl⟩
   have HCK := hide hck
   rw [hck]
   have hcb : (ck != 0) = true := by simp; omega
   have hcI : ¬ ck = 0 := by omega
   clear hbad hgood h0 hck HE
   go_wp2_with fail
   refine bodyPost_ret (v := .tuple #[.agg #[.slice none 0 0, .slice none 0 0, .slice none 0 0, .slice none 0 0, .int .i64 0, .slice none 0 0], .int .i64 ck]) ?_ rfl ?_
   · simp only [results, HRES.out]
     go_simp
   rw [← HCK.out]
   refine ⟨?_, _, rfl, fun _ => rfl, fun h9 => absurd h9 HN0.out⟩
   have hb12 := HW1.out.trans (HB2.out.mono HW1.out.size)
   exact (((((hb12.setCell (p := ⟨w.heap.size + 1, 0, none⟩) (Nat.le_succ _) _).setCell (p := ⟨w.heap.size + 1, 1, none⟩) (Nat.le_succ _) _).setCell (p := ⟨w.heap.size + 1, 2, none⟩) (Nat.le_succ _) _).setCell (p := ⟨w.heap.size + 1, 3, none⟩) (Nat.le_succ _) _).setCell (p := ⟨w.heap.size + 1, 4, none⟩) (Nat.le_succ _) _).setCell (p := ⟨w.heap.size + 1, 5, none⟩) (Nat.le_succ _) _
 obtain ⟨mb, B, v, hB, rfl, hm⟩ := hgood h0
 have HM := hide hm
 have HB := hide hB
 have HC0 := hide h0
 obtain ⟨o0, c0, e0⟩ := slice_of hm 0 (by decide) (by decide)
 obtain ⟨o1, c1, e1⟩ := slice_of hm 1 (by decide) (by decide)
 obtain ⟨o2, c2, e2⟩ := slice_of hm 2 (by decide) (by decide)
 obtain ⟨o3, c3, e3⟩ := slice_of hm 3 (by decide) (by decide)
 obtain ⟨o5, c5, e5⟩ := slice_of hm 5 (by decide) (by decide)
 have HPR := hide (md_prog hm)
 rw [e0, e1, e2, e3, e5] at HPR
 obtain ⟨⟨m0, m1, m2, m3, m4, m5, -, -⟩, -⟩ := hm.cells
 rw [e0] at m0
 rw [e1] at m1
 rw [e2] at m2
 rw [e3] at m3
 rw [e5] at m5
 have hmb := hm.k.lt
 have hmn : mb ≠ w.heap.size + 1 := by have h7 := hm.b; have h8 := HLO.out; omega
 have hmn2 := Ne.symm hmn
 obtain ⟨n0, hn0⟩ : ∃ n0, (sOf P (makeC P).1 0).n = n0 := ⟨_, rfl⟩
 obtain ⟨n1, hn1⟩ : ∃ n1, (sOf P (makeC P).1 1).n = n1 := ⟨_, rfl⟩
 obtain ⟨n2, hn2⟩ : ∃ n2, (sOf P (makeC P).1 2).n = n2 := ⟨_, rfl⟩
 obtain ⟨n3, hn3⟩ : ∃ n3, (sOf P (makeC P).1 3).n = n3 := ⟨_, rfl⟩
 obtain ⟨n5, hn5⟩ : ∃ n5, (sOf P (makeC P).1 5).n = n5 := ⟨_, rfl⟩
 obtain ⟨mi, hmi⟩ : ∃ mi, (makeC P).2 = mi := ⟨_, rfl⟩
 rw [hn0] at m0 HPR
 rw [hn1] at m1 HPR
 rw [hn2] at m2 HPR
 rw [hn3] at m3 HPR
 rw [hn5] at m5 HPR
 rw [hmi] at m4 HPR
 have HMI := hide hmi
 clear hm hB h0 hbad hgood e0 e1 e2 e3 e5 hn0 hn1 hn2 hn3 hn5 hmi HM
 go_wp2_with fail
 refine bodyPost_ret (v := .tuple #[.agg #[.slice o0 n0 c0, .slice o1 n1 c1, .slice o2 n2 c2, .slice o3 n3 c3, .int .i64 mi, .slice o5 n5 c5], .int .i64 0]) ?_ rfl ?_
 · simp only [results, HRES.out]
   go_simp
 have hob : Only (fun k => k = w.heap.size + 1) W2 ((((((W2.setCell ⟨w.heap.size + 1, 0, none⟩ (.slice o0 n0 c0)).setCell ⟨w.heap.size + 1, 1, none⟩ (.slice o1 n1 c1)).setCell ⟨w.heap.size + 1, 2, none⟩ (.slice o2 n2 c2)).setCell ⟨w.heap.size + 1, 3, none⟩ (.slice o3 n3 c3)).setCell ⟨w.heap.size + 1, 4, none⟩ (.int .i64 mi)).setCell ⟨w.heap.size + 1, 5, none⟩ (.slice o5 n5 c5)) :=
   ((((((Only.refl (fun k => k = w.heap.size + 1) W2).setCell (p := ⟨w.heap.size + 1, 0, none⟩) (.inl rfl) _).setCell (p := ⟨w.heap.size + 1, 1, none⟩) (.inl rfl) _).setCell (p := ⟨w.heap.size + 1, 2, none⟩) (.inl rfl) _).setCell (p := ⟨w.heap.size + 1, 3, none⟩) (.inl rfl) _).setCell (p := ⟨w.heap.size + 1, 4, none⟩) (.inl rfl) _).setCell (p := ⟨w.heap.size + 1, 5, none⟩) (.inl rfl) _
 have hb12 := HW1.out.trans (HB2.out.mono HW1.out.size)
 refine ⟨hb12.trans (hob.below (B := w.heap.size) (fun k hk => by omega) hb12.size), _, by rw [HC0.out]; rfl, fun h9 => absurd HC0.out h9, fun _ => ⟨?_, (make_cd HC0.out).1⟩⟩
 rw [HMI.out]
 exact (HPR.out.only hob (fun k hk => .inl (by have h8 := HLO.out; have h7 := HB.out; omega))).down (Nat.le_trans HW1.out.size HB.out)
set_option maxRecDepth 100000 in
theorem originR_i (w : World) (q : PlV) (P : Pl) (rs : List (Option Addr × Nat)) (h : PlMem w q P rs) (hbig : ∀ l ∈ P.on ++ [P.ms], l.length ≤ 1048576) (hl : P.on.length ≤ 1048576) :
   Calls Try.prog 20 #[q.val] w fun en w' => OrigP w P en w' := by
 have HMK := hide (fun (W : World) (hb : Below w.heap.size w W) => all_i W q P rs (h.below hb) hbig hl)
 obtain ⟨e1, e2, e3, e4, e5, _, _, _, _, _, _⟩ := h
 obtain ⟨ga, va, ta, oa, ma, gl, gc, vl, vc, tl, tc, ol, oc, ml, mc⟩ := q
 simp only at e1 e2 e3 e4 e5
 subst e1 e2 e3 e4 e5
 simp only [PlV.val] at HMK ⊢
 have HW1 := hide (show Below w.heap.size w (w.alloc (.cells #[.slice ga P.gh.length gc, .slice va P.vs.length vc, .slice ta P.ts.length tc, .slice oa P.on.length oc, .slice ma P.ms.length mc] 28)) from (Below.refl _ w).alloc (Nat.le_refl _) _)
 have HP1 := hide (Blk.new w 28 #[.slice ga P.gh.length gc, .slice va P.vs.length vc, .slice ta P.ts.length tc, .slice oa P.on.length oc, .slice ma P.ms.length mc])
 go_enter Try.func20, Try.ntmps20
 go_upto_region 1 with fail
 generalize (w.alloc (.cells #[.slice ga P.gh.length gc, .slice va P.vs.length vc, .slice ta P.ts.length tc, .slice oa P.on.length oc, .slice ma P.ms.length mc] 28)) = W1 at HW1 HP1
 obtain ⟨p0, p1, p2, p3, p4, _⟩ := blk5 HP1.out
 go_wp2_with fail
 go_at_call 44
 refine (HMK.out W1 HW1.out).mono ?_
 rintro en W2 ⟨hb2, hbad, hgood⟩
 have HB2 := hide hb2
 clear hb2 p0 p1 p2 p3 p4 HMK
 by_cases h0 : checkV P = 0
 case neg =>
   have he := hbad h0
   subst he
   have HN0 := hide h0
   obtain ⟨ck, hck⟩ : ∃ ck, (checkV P : Int) = ck := ⟨_, rfl⟩
   have HCK := hide hck
   rw [hck]
   have hcb : (ck != 0) = true := by simp; omega
   have hcI : ¬ ck = 0 := by omega
   clear hbad hgood h0 hck
   go_wp2_with fail
   go_ret3
   rw [← HCK.out]
   exact ⟨HW1.out.trans (HB2.out.mono HW1.out.size), _, _, rfl, fun _ => ⟨rfl, rfl⟩, fun h9 => absurd h9 HN0.out⟩
 obtain ⟨mb, B, v, hB, rfl, hm⟩ := hgood h0
 have HM := hide hm
 have HB := hide hB
 have HC0 := hide h0
 obtain ⟨⟨-, -, -, -, -, -, m6, m7⟩, -⟩ := hm.cells
 have hmb := hm.k.lt
 clear hm hB h0 hbad hgood
 go_wp2_with fail
 go_quiet (fail)
 go_wp2_with fail
 go_ret3
 have hsz : w.heap.size ≤ B := Nat.le_trans HW1.out.size HB.out
 have hmc := make_cd HC0.out
 refine ⟨below_drewN (HW1.out.trans (HB2.out.mono HW1.out.size)) _, _, _, by rw [HC0.out]; rfl, fun h9 => absurd HC0.out h9, fun _ => ⟨own_down (HM.out.o 6 (by decide) (by decide)) hsz, own_down (HM.out.o 7 (by decide) (by decide)) hsz, hmc.2.1, hmc.2.2, HM.out.a 6 7 (by decide) (by decide) (by decide) (by decide) (by decide)⟩⟩
end Go.Proofs.Ytdpokdcendgfeaa
