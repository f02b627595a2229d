/- Several texts in one: The walk of gen's act, by kinds. The walk of gen's act, by kinds. Conditions: those of each. -/
import Derived.Test.YtdpokdcendgfeaaZ3
import Derived.StillTailTactics
set_option linter.unusedSimpArgs false
set_option linter.unusedVariables false
set_option maxHeartbeats 40000000
namespace Go.Proofs.Ytdpokdcendgfeaa
open Go.RowKit
section
variable {P : Pl} {l : List Ac} {f : Nat} {B b : Nat} {ad : Addr} {ca ge : Nat} {W : World} {v : Wv} {cd : List In} {rw : List Int} {lt : List Value} {i : Nat} {xa xb xc xd : Int}
set_option maxRecDepth 100000 in
theorem act_if3 (HA : ActAll P l f) (hg : Gw W B b l ad ca ge v cd rw lt cd.length) (hr : rw.length = cd.length) (hxl : lt.length ≤ cd.length) (hx : l[i]? = some ⟨2, xa, xb, xc, xd, 3⟩)
   {k0 k1 k2 e0 e1 e2 : Nat} (hks : kidsS l 3 (i + 1) = some [(k0, e0), (k1, e1), (k2, e2)]) (hl : l.length ≤ 262144) (hnl : (3 : Int) ≤ (l.length : Int))
   (hw0 : Wf P l f 3 k0 e0) (hw1 : Wf P l f 1 k1 e1) (hw2 : Wf P l f 1 k2 e2) {m0 m1 m2 : List Cd} {N1 N2 F E : Nat} (hm0 : actC l f k0 cd.length = m0) (hN1 : cd.length + m0.length = N1) (hm1 : actC l f k1 (N1 + 1) = m1) (hN2 : N1 + 1 + m1.length = N2) (hF : N2 + 1 = F) (hm2 : actC l f k2 F = m2) (hE : F + m2.length = E) (hb : E ≤ 1048576) :
   ActGoal l B b ad ca ge W v cd rw lt i (m0 ++ jmpC 23 i F :: (m1 ++ jmpC 22 i E :: m2)) := by
 unfold ActGoal
 have HG := hide hg
 have HBX := hide ((Below.refl W.heap.size W).alloc (Nat.le_refl _) (.cells #[.int .i64 2, .int .i64 xa, .int .i64 xb, .int .i64 xc, .int .i64 xd, .int .i64 3] 49))
 have HBK := hide (Blk.new W 49 #[.int .i64 2, .int .i64 xa, .int .i64 xb, .int .i64 xc, .int .i64 xd, .int .i64 3])
 have HPL := fun W' : World => hide (show Calls Try.prog 150 #[.int .i64 2] W' fun en w' => en = .returned (.tuple #[.int .i64 0, .bool false]) ∧ w' = W' from by simpa [plainV] using plain_i W' 2)
 have HK := hide (kidsG_i (hg.grow HBX.out) i ⟨2, xa, xb, xc, xd, 3⟩ _ hx hks (show (0 : Int) ≤ 3 by decide) hnl hl)
 obtain ⟨q0, q1, _⟩ := gw_cells hg
 obtain ⟨ad', e', hab, p0, p1, p2, p3, p4, p5⟩ := acs_row hg.ke.src hx
 cases e'
 simp only at p0 p1 p2 p3 p4 p5
 have hil := (List.getElem?_eq_some_iff.1 hx).1
 have hI0 : (0 : Int) ≤ (i : Int) := by omega
 have hI1 : (i : Int) < (l.length : Int) := by omega
 have y0 : (W.alloc (.cells #[.int .i64 2, .int .i64 xa, .int .i64 xb, .int .i64 xc, .int .i64 xd, .int .i64 3] 49)).cell? ⟨W.heap.size, 0, none⟩ = some (.int .i64 2) := HBK.out.cell 0
 clear hg hx hab
 go_enter Try.func110, Try.ntmps110
 go_upto_region 6 with (first
   | (go_at_call 150; refine (HPL _).out.mono ?_; rintro en w1 ⟨rfl, rfl⟩)
   | (go_at_call 151; refine HK.out.mono ?_; rintro en w2 ⟨u, rfl, hown, hbl⟩; have HOWN := hide hown; have HBL := hide hbl; clear hown hbl))
 have hown2 : w2.ownsRow (W.alloc (.cells #[.int .i64 2, .int .i64 xa, .int .i64 xb, .int .i64 xc, .int .i64 xd, .int .i64 3] 49)).heap.size 3 1 u 3 (ints ([k0, k1, k2].map fun r : Nat => (r : Int))) := HOWN.out
 obtain ⟨kb, cp, rfl, hcp1, hcp2⟩ := own_form hown2 (by decide)
 obtain ⟨lo, H, hst, hbo⟩ : ∃ lo H, Sta B b l ad ca ge W v cd rw lt lo H ((w2.alloc (.cells #[.int .i64 0] 3)).alloc (.cells #[.int .i64 0] 3)) v [] [] [] ∧ Boxes W lo H ⟨2, xa, xb, xc, xd, 3⟩ W.heap.size kb [k0, k1, k2] w2.heap.size (w2.heap.size + 1) (.int .i64 0) (.int .i64 0) :=
   ⟨_, _, sta_init HG.out hr hxl (((HBX.out.trans (HBL.out.mono HBX.out.size)).alloc (Nat.le_trans HBX.out.size HBL.out.size) _).alloc (by have := HBX.out.size; have := HBL.out.size; simp at this ⊢; omega) _), boxes_init _ 0 HBK.out HBL.out hown2 (fun _ => ⟨cp, rfl⟩)⟩
 have hlo : W.heap.size ≤ lo := by have := hbo.rx; omega
 generalize ((w2.alloc (.cells #[.int .i64 0] 3)).alloc (.cells #[.int .i64 0] 3)) = W1 at hst
 generalize w2.heap.size = eb at hbo
 obtain ⟨fb, hfb⟩ : ∃ fb, eb + 1 = fb := ⟨_, rfl⟩
 rw [hfb] at hbo
 rw [hfb]
 obtain ⟨hne1, hne2, hne3, _⟩ := hbo.ne
 have HST0 := hide hst
 have HBO0 := hide hbo
 obtain ⟨c0x, c0a, fk0, fe0, ff0, ze0, zf0⟩ := sta_facts hst hbo
 have c0k0 := fk0 0 k0 rfl
 have c0k1 := fk0 1 k1 rfl
 have c0k2 := fk0 2 k2 rfl
 clear fk0 hst hbo hown2 HOWN HBL HK HPL HBX HBK q0 q1 p0 p1 p2 p3 p4 p5 y0 hI0 hI1 hil hnl hcp1 hcp2 hfb
 go_wp2_with (first
   | (go_at_call 110
      have hc1 := sta_act HA HST0.out 3 k0 e0 hw0 (by decide) (N := cd.length) (by simp <;> omega) (by rw [hm0]; omega)
      with_reducible refine hc1.mono ?_
      rintro en w11 ⟨rfl, v1, ys1, hst1⟩
      clear hc1
      rw [hm0] at hst1
      have HST1 := hide hst1
      clear hst1
      obtain ⟨c1x, c1a, fk1, fe1, ff1, ze1, zf1⟩ := sta_facts HST1.out HBO0.out
      have c1k0 := fk1 0 k0 rfl
      have c1k1 := fk1 1 k1 rfl
      have c1k2 := fk1 2 k2 rfl
      clear c0x c0a fe0 ff0 ze0 zf0 c0k0 c0k1 c0k2 fk1)
   | (go_at_call 152
      have hc2 := sta_jump HST1.out i 23 ⟨fb, 0, none⟩ F (N := N1) (by simp <;> omega) (by omega)
      with_reducible refine hc2.mono ?_
      rintro en w12 ⟨rfl, v2, x2, hst2⟩
      clear hc2
      have HST2 := hide hst2
      clear hst2
      obtain ⟨c2x, c2a, fk2, fe2, ff2, ze2, zf2⟩ := sta_facts HST2.out HBO0.out
      have c2k0 := fk2 0 k0 rfl
      have c2k1 := fk2 1 k1 rfl
      have c2k2 := fk2 2 k2 rfl
      clear c1x c1a fe1 ff1 ze1 zf1 c1k0 c1k1 c1k2 fk2)
   | (go_at_call 110
      have hc3 := sta_act HA HST2.out 1 k1 e1 hw1 (by decide) (N := (N1 + 1)) (by simp <;> omega) (by rw [hm1]; omega)
      with_reducible refine hc3.mono ?_
      rintro en w13 ⟨rfl, v3, ys3, hst3⟩
      clear hc3
      rw [hm1] at hst3
      have HST3 := hide hst3
      clear hst3
      obtain ⟨c3x, c3a, fk3, fe3, ff3, ze3, zf3⟩ := sta_facts HST3.out HBO0.out
      have c3k0 := fk3 0 k0 rfl
      have c3k1 := fk3 1 k1 rfl
      have c3k2 := fk3 2 k2 rfl
      clear c2x c2a fe2 ff2 ze2 zf2 c2k0 c2k1 c2k2 fk3)
   | (go_at_call 152
      have hc4 := sta_jump HST3.out i 22 ⟨eb, 0, none⟩ E (N := N2) (by simp <;> omega) (by omega)
      with_reducible refine hc4.mono ?_
      rintro en w14 ⟨rfl, v4, x4, hst4⟩
      clear hc4
      have HST4 := hide hst4
      clear hst4
      obtain ⟨c4x, c4a, fk4, fe4, ff4, ze4, zf4⟩ := sta_facts HST4.out HBO0.out
      have c4k0 := fk4 0 k0 rfl
      have c4k1 := fk4 1 k1 rfl
      have c4k2 := fk4 2 k2 rfl
      clear c3x c3a fe3 ff3 ze3 zf3 c3k0 c3k1 c3k2 fk4)
   | (go_at_call 153
      have hh4 := sta_here HST4.out (N := F) (by simp <;> omega)
      with_reducible refine hh4.mono ?_
      rintro en w44 ⟨rfl, rfl⟩
      clear hh4
      have HST5 := hide (sta_set (u := .int .i64 (F : Int)) HST4.out HBO0.out.rf.1 HBO0.out.rf.2 HBO0.out.hf)
      have HBO1 := hide (HBO0.out.set_f (.int .i64 (F : Int)))
      obtain ⟨c5x, c5a, fk5, fe5, ff5, ze5, zf5⟩ := sta_facts HST5.out HBO1.out
      have c5k0 := fk5 0 k0 rfl
      have c5k1 := fk5 1 k1 rfl
      have c5k2 := fk5 2 k2 rfl
      clear fk5)
   | (go_at_call 110
      have hc6 := sta_act HA HST5.out 1 k2 e2 hw2 (by decide) (N := F) (by simp <;> omega) (by rw [hm2]; omega)
      with_reducible refine hc6.mono ?_
      rintro en w16 ⟨rfl, v6, ys6, hst6⟩
      clear hc6
      rw [hm2] at hst6
      have HST6 := hide hst6
      clear hst6
      obtain ⟨c6x, c6a, fk6, fe6, ff6, ze6, zf6⟩ := sta_facts HST6.out HBO1.out
      have c6k0 := fk6 0 k0 rfl
      have c6k1 := fk6 1 k1 rfl
      have c6k2 := fk6 2 k2 rfl
      clear c5x c5a fe5 ff5 ze5 zf5 c5k0 c5k1 c5k2 fk6)
   | (go_at_call 153
      have hh6 := sta_here HST6.out (N := E) (by simp <;> omega)
      with_reducible refine hh6.mono ?_
      rintro en w46 ⟨rfl, rfl⟩
      clear hh6
      have HST7 := hide (sta_set (u := .int .i64 (E : Int)) HST6.out HBO1.out.re.1 HBO1.out.re.2 HBO1.out.he)
      have HBO2 := hide (HBO1.out.set_e (.int .i64 (E : Int)))
      obtain ⟨c7x, c7a, fk7, fe7, ff7, ze7, zf7⟩ := sta_facts HST7.out HBO2.out
      have c7k0 := fk7 0 k0 rfl
      have c7k1 := fk7 1 k1 rfl
      have c7k2 := fk7 2 k2 rfl
      clear fk7))
 first
 | go_end0
 | refine bodyPost_ret (results_none rfl _ _ _) rfl ?_
 refine ⟨rfl, ?_⟩
 have hst9 := HST7.out
 simp only [List.nil_append, List.append_assoc, List.cons_append] at hst9
 refine sta_done hst9 (fun a => if a = ⟨fb, 0, none⟩ then F else E) ?_ hlo ?_
 · simp [resolve_jumps, jumpsC_append, jumpsC, jmpC, sayC, resolve, hN1, hN2, hF, hne3]
 · intro p pc hm
   simp [not_inr] at hm
   rcases hm with ⟨-, rfl⟩ | ⟨-, rfl⟩
   · exact ⟨fb, _, rfl, HBO2.out.rf.1, HBO2.out.rf.2, by rw [if_pos rfl]; exact HBO2.out.hf⟩
   · exact ⟨eb, _, rfl, HBO2.out.re.1, HBO2.out.re.2, by rw [if_neg (by simp [hne3])]; exact HBO2.out.he⟩
set_option maxRecDepth 100000 in
theorem act_if2 (HA : ActAll P l f) (hg : Gw W B b l ad ca ge v cd rw lt cd.length) (hr : rw.length = cd.length) (hxl : lt.length ≤ cd.length) (hx : l[i]? = some ⟨2, xa, xb, xc, xd, 2⟩)
   {k0 k1 e0 e1 : Nat} (hks : kidsS l 2 (i + 1) = some [(k0, e0), (k1, e1)]) (hl : l.length ≤ 262144) (hnl : (2 : Int) ≤ (l.length : Int))
   (hw0 : Wf P l f 3 k0 e0) (hw1 : Wf P l f 1 k1 e1) {m0 m1 : List Cd} {N1 F : Nat} (hm0 : actC l f k0 cd.length = m0) (hN1 : cd.length + m0.length = N1) (hm1 : actC l f k1 (N1 + 1) = m1) (hF : N1 + 1 + m1.length = F) (hb : F ≤ 1048576) :
   ActGoal l B b ad ca ge W v cd rw lt i (m0 ++ jmpC 23 i F :: m1) := by
 unfold ActGoal
 have HG := hide hg
 have HBX := hide ((Below.refl W.heap.size W).alloc (Nat.le_refl _) (.cells #[.int .i64 2, .int .i64 xa, .int .i64 xb, .int .i64 xc, .int .i64 xd, .int .i64 2] 49))
 have HBK := hide (Blk.new W 49 #[.int .i64 2, .int .i64 xa, .int .i64 xb, .int .i64 xc, .int .i64 xd, .int .i64 2])
 have HPL := fun W' : World => hide (show Calls Try.prog 150 #[.int .i64 2] W' fun en w' => en = .returned (.tuple #[.int .i64 0, .bool false]) ∧ w' = W' from by simpa [plainV] using plain_i W' 2)
 have HK := hide (kidsG_i (hg.grow HBX.out) i ⟨2, xa, xb, xc, xd, 2⟩ _ hx hks (show (0 : Int) ≤ 2 by decide) hnl hl)
 obtain ⟨q0, q1, _⟩ := gw_cells hg
 obtain ⟨ad', e', hab, p0, p1, p2, p3, p4, p5⟩ := acs_row hg.ke.src hx
 cases e'
 simp only at p0 p1 p2 p3 p4 p5
 have hil := (List.getElem?_eq_some_iff.1 hx).1
 have hI0 : (0 : Int) ≤ (i : Int) := by omega
 have hI1 : (i : Int) < (l.length : Int) := by omega
 have y0 : (W.alloc (.cells #[.int .i64 2, .int .i64 xa, .int .i64 xb, .int .i64 xc, .int .i64 xd, .int .i64 2] 49)).cell? ⟨W.heap.size, 0, none⟩ = some (.int .i64 2) := HBK.out.cell 0
 clear hg hx hab
 go_enter Try.func110, Try.ntmps110
 go_upto_region 6 with (first
   | (go_at_call 150; refine (HPL _).out.mono ?_; rintro en w1 ⟨rfl, rfl⟩)
   | (go_at_call 151; refine HK.out.mono ?_; rintro en w2 ⟨u, rfl, hown, hbl⟩; have HOWN := hide hown; have HBL := hide hbl; clear hown hbl))
 have hown2 : w2.ownsRow (W.alloc (.cells #[.int .i64 2, .int .i64 xa, .int .i64 xb, .int .i64 xc, .int .i64 xd, .int .i64 2] 49)).heap.size 3 1 u 2 (ints ([k0, k1].map fun r : Nat => (r : Int))) := HOWN.out
 obtain ⟨kb, cp, rfl, hcp1, hcp2⟩ := own_form hown2 (by decide)
 obtain ⟨lo, H, hst, hbo⟩ : ∃ lo H, Sta B b l ad ca ge W v cd rw lt lo H ((w2.alloc (.cells #[.int .i64 0] 3)).alloc (.cells #[.int .i64 0] 3)) v [] [] [] ∧ Boxes W lo H ⟨2, xa, xb, xc, xd, 2⟩ W.heap.size kb [k0, k1] w2.heap.size (w2.heap.size + 1) (.int .i64 0) (.int .i64 0) :=
   ⟨_, _, sta_init HG.out hr hxl (((HBX.out.trans (HBL.out.mono HBX.out.size)).alloc (Nat.le_trans HBX.out.size HBL.out.size) _).alloc (by have := HBX.out.size; have := HBL.out.size; simp at this ⊢; omega) _), boxes_init _ 0 HBK.out HBL.out hown2 (fun _ => ⟨cp, rfl⟩)⟩
 have hlo : W.heap.size ≤ lo := by have := hbo.rx; omega
 generalize ((w2.alloc (.cells #[.int .i64 0] 3)).alloc (.cells #[.int .i64 0] 3)) = W1 at hst
 generalize w2.heap.size = eb at hbo
 obtain ⟨fb, hfb⟩ : ∃ fb, eb + 1 = fb := ⟨_, rfl⟩
 rw [hfb] at hbo
 rw [hfb]
 obtain ⟨hne1, hne2, hne3, _⟩ := hbo.ne
 have HST0 := hide hst
 have HBO0 := hide hbo
 obtain ⟨c0x, c0a, fk0, fe0, ff0, ze0, zf0⟩ := sta_facts hst hbo
 have c0k0 := fk0 0 k0 rfl
 have c0k1 := fk0 1 k1 rfl
 clear fk0 hst hbo hown2 HOWN HBL HK HPL HBX HBK q0 q1 p0 p1 p2 p3 p4 p5 y0 hI0 hI1 hil hnl hcp1 hcp2 hfb
 go_wp2_with (first
   | (go_at_call 110
      have hc1 := sta_act HA HST0.out 3 k0 e0 hw0 (by decide) (N := cd.length) (by simp <;> omega) (by rw [hm0]; omega)
      with_reducible refine hc1.mono ?_
      rintro en w11 ⟨rfl, v1, ys1, hst1⟩
      clear hc1
      rw [hm0] at hst1
      have HST1 := hide hst1
      clear hst1
      obtain ⟨c1x, c1a, fk1, fe1, ff1, ze1, zf1⟩ := sta_facts HST1.out HBO0.out
      have c1k0 := fk1 0 k0 rfl
      have c1k1 := fk1 1 k1 rfl
      clear c0x c0a fe0 ff0 ze0 zf0 c0k0 c0k1 fk1)
   | (go_at_call 152
      have hc2 := sta_jump HST1.out i 23 ⟨fb, 0, none⟩ F (N := N1) (by simp <;> omega) (by omega)
      with_reducible refine hc2.mono ?_
      rintro en w12 ⟨rfl, v2, x2, hst2⟩
      clear hc2
      have HST2 := hide hst2
      clear hst2
      obtain ⟨c2x, c2a, fk2, fe2, ff2, ze2, zf2⟩ := sta_facts HST2.out HBO0.out
      have c2k0 := fk2 0 k0 rfl
      have c2k1 := fk2 1 k1 rfl
      clear c1x c1a fe1 ff1 ze1 zf1 c1k0 c1k1 fk2)
   | (go_at_call 110
      have hc3 := sta_act HA HST2.out 1 k1 e1 hw1 (by decide) (N := (N1 + 1)) (by simp <;> omega) (by rw [hm1]; omega)
      with_reducible refine hc3.mono ?_
      rintro en w13 ⟨rfl, v3, ys3, hst3⟩
      clear hc3
      rw [hm1] at hst3
      have HST3 := hide hst3
      clear hst3
      obtain ⟨c3x, c3a, fk3, fe3, ff3, ze3, zf3⟩ := sta_facts HST3.out HBO0.out
      have c3k0 := fk3 0 k0 rfl
      have c3k1 := fk3 1 k1 rfl
      clear c2x c2a fe2 ff2 ze2 zf2 c2k0 c2k1 fk3)
   | (go_at_call 153
      have hh3 := sta_here HST3.out (N := F) (by simp <;> omega)
      with_reducible refine hh3.mono ?_
      rintro en w43 ⟨rfl, rfl⟩
      clear hh3
      have HST4 := hide (sta_set (u := .int .i64 (F : Int)) HST3.out HBO0.out.rf.1 HBO0.out.rf.2 HBO0.out.hf)
      have HBO1 := hide (HBO0.out.set_f (.int .i64 (F : Int)))
      obtain ⟨c4x, c4a, fk4, fe4, ff4, ze4, zf4⟩ := sta_facts HST4.out HBO1.out
      have c4k0 := fk4 0 k0 rfl
      have c4k1 := fk4 1 k1 rfl
      clear fk4))
 first
 | go_end0
 | refine bodyPost_ret (results_none rfl _ _ _) rfl ?_
 refine ⟨rfl, ?_⟩
 have hst9 := HST4.out
 simp only [List.nil_append, List.append_assoc, List.cons_append] at hst9
 refine sta_done hst9 (fun a => F) ?_ hlo ?_
 · simp [resolve_jumps, jumpsC_append, jumpsC, jmpC, sayC, resolve, hN1, hF]
 · intro p pc hm
   simp [not_inr] at hm
   rcases hm with ⟨-, rfl⟩
   · exact ⟨fb, _, rfl, HBO1.out.rf.1, HBO1.out.rf.2, HBO1.out.hf⟩
set_option maxRecDepth 100000 in
theorem act_loop (HA : ActAll P l f) (hg : Gw W B b l ad ca ge v cd rw lt cd.length) (hr : rw.length = cd.length) (hxl : lt.length ≤ cd.length) (hx : l[i]? = some ⟨3, xa, xb, xc, xd, 2⟩)
   {k0 k1 e0 e1 : Nat} (hks : kidsS l 2 (i + 1) = some [(k0, e0), (k1, e1)]) (hl : l.length ≤ 262144) (hnl : (2 : Int) ≤ (l.length : Int))
   (hw0 : Wf P l f 3 k0 e0) (hw1 : Wf P l f 1 k1 e1) {m0 m1 : List Cd} {T A0 N1 N2 E : Nat} (hT : cd.length + 1 = T) (hA : T + 1 = A0) (hm0 : actC l f k0 A0 = m0) (hN1 : A0 + m0.length = N1) (hm1 : actC l f k1 (N1 + 1) = m1) (hN2 : N1 + 1 + m1.length = N2) (hE : N2 + 1 = E) (hb : E ≤ 1048576) :
   ActGoal l B b ad ca ge W v cd rw lt i (sayC 24 xa 0 0 0 i :: jmpC 25 i E :: (m0 ++ jmpC 26 i E :: (m1 ++ [sayC 27 (T : Int) 0 0 0 i]))) := by
 unfold ActGoal
 have HG := hide hg
 have HBX := hide ((Below.refl W.heap.size W).alloc (Nat.le_refl _) (.cells #[.int .i64 3, .int .i64 xa, .int .i64 xb, .int .i64 xc, .int .i64 xd, .int .i64 2] 49))
 have HBK := hide (Blk.new W 49 #[.int .i64 3, .int .i64 xa, .int .i64 xb, .int .i64 xc, .int .i64 xd, .int .i64 2])
 have HPL := fun W' : World => hide (show Calls Try.prog 150 #[.int .i64 3] W' fun en w' => en = .returned (.tuple #[.int .i64 0, .bool false]) ∧ w' = W' from by simpa [plainV] using plain_i W' 3)
 have HK := hide (kidsG_i (hg.grow HBX.out) i ⟨3, xa, xb, xc, xd, 2⟩ _ hx hks (show (0 : Int) ≤ 2 by decide) hnl hl)
 obtain ⟨q0, q1, _⟩ := gw_cells hg
 obtain ⟨ad', e', hab, p0, p1, p2, p3, p4, p5⟩ := acs_row hg.ke.src hx
 cases e'
 simp only at p0 p1 p2 p3 p4 p5
 have hil := (List.getElem?_eq_some_iff.1 hx).1
 have hI0 : (0 : Int) ≤ (i : Int) := by omega
 have hI1 : (i : Int) < (l.length : Int) := by omega
 have y0 : (W.alloc (.cells #[.int .i64 3, .int .i64 xa, .int .i64 xb, .int .i64 xc, .int .i64 xd, .int .i64 2] 49)).cell? ⟨W.heap.size, 0, none⟩ = some (.int .i64 3) := HBK.out.cell 0
 clear hg hx hab
 go_enter Try.func110, Try.ntmps110
 go_upto_region 6 with (first
   | (go_at_call 150; refine (HPL _).out.mono ?_; rintro en w1 ⟨rfl, rfl⟩)
   | (go_at_call 151; refine HK.out.mono ?_; rintro en w2 ⟨u, rfl, hown, hbl⟩; have HOWN := hide hown; have HBL := hide hbl; clear hown hbl))
 have hown2 : w2.ownsRow (W.alloc (.cells #[.int .i64 3, .int .i64 xa, .int .i64 xb, .int .i64 xc, .int .i64 xd, .int .i64 2] 49)).heap.size 3 1 u 2 (ints ([k0, k1].map fun r : Nat => (r : Int))) := HOWN.out
 obtain ⟨kb, cp, rfl, hcp1, hcp2⟩ := own_form hown2 (by decide)
 obtain ⟨lo, H, hst, hbo⟩ : ∃ lo H, Sta B b l ad ca ge W v cd rw lt lo H ((w2.alloc (.cells #[.int .i64 0] 3)).alloc (.cells #[.int .i64 0] 3)) v [] [] [] ∧ Boxes W lo H ⟨3, xa, xb, xc, xd, 2⟩ W.heap.size kb [k0, k1] w2.heap.size (w2.heap.size + 1) (.int .i64 0) (.int .i64 0) :=
   ⟨_, _, sta_init HG.out hr hxl (((HBX.out.trans (HBL.out.mono HBX.out.size)).alloc (Nat.le_trans HBX.out.size HBL.out.size) _).alloc (by have := HBX.out.size; have := HBL.out.size; simp at this ⊢; omega) _), boxes_init _ 0 HBK.out HBL.out hown2 (fun _ => ⟨cp, rfl⟩)⟩
 have hlo : W.heap.size ≤ lo := by have := hbo.rx; omega
 generalize ((w2.alloc (.cells #[.int .i64 0] 3)).alloc (.cells #[.int .i64 0] 3)) = W1 at hst
 generalize w2.heap.size = eb at hbo
 obtain ⟨fb, hfb⟩ : ∃ fb, eb + 1 = fb := ⟨_, rfl⟩
 rw [hfb] at hbo
 rw [hfb]
 obtain ⟨hne1, hne2, hne3, _⟩ := hbo.ne
 have HST0 := hide hst
 have HBO0 := hide hbo
 obtain ⟨c0x, c0a, fk0, fe0, ff0, ze0, zf0⟩ := sta_facts hst hbo
 have c0k0 := fk0 0 k0 rfl
 have c0k1 := fk0 1 k1 rfl
 clear fk0 hst hbo hown2 HOWN HBL HK HPL HBX HBK q0 q1 p0 p1 p2 p3 p4 p5 y0 hI0 hI1 hil hnl hcp1 hcp2 hfb
 go_wp2_with (first
   | (go_at_call 111
      have hc1 := sta_say HST0.out i 24 xa 0 0 0 (N := cd.length) (by simp <;> omega) (by omega)
      with_reducible refine hc1.mono ?_
      rintro en w11 ⟨rfl, v1, hst1⟩
      clear hc1
      have HST1 := hide hst1
      clear hst1
      obtain ⟨c1x, c1a, fk1, fe1, ff1, ze1, zf1⟩ := sta_facts HST1.out HBO0.out
      have c1k0 := fk1 0 k0 rfl
      have c1k1 := fk1 1 k1 rfl
      clear c0x c0a fe0 ff0 ze0 zf0 c0k0 c0k1 fk1)
   | (go_at_call 153
      have hh1 := sta_here HST1.out (N := T) (by simp <;> omega)
      with_reducible refine hh1.mono ?_
      rintro en w41 ⟨rfl, rfl⟩
      clear hh1)
   | (go_at_call 152
      have hc2 := sta_jump HST1.out i 25 ⟨eb, 0, none⟩ E (N := T) (by simp <;> omega) (by omega)
      with_reducible refine hc2.mono ?_
      rintro en w12 ⟨rfl, v2, x2, hst2⟩
      clear hc2
      have HST2 := hide hst2
      clear hst2
      obtain ⟨c2x, c2a, fk2, fe2, ff2, ze2, zf2⟩ := sta_facts HST2.out HBO0.out
      have c2k0 := fk2 0 k0 rfl
      have c2k1 := fk2 1 k1 rfl
      clear c1x c1a fe1 ff1 ze1 zf1 c1k0 c1k1 fk2)
   | (go_at_call 110
      have hc3 := sta_act HA HST2.out 3 k0 e0 hw0 (by decide) (N := A0) (by simp <;> omega) (by rw [hm0]; omega)
      with_reducible refine hc3.mono ?_
      rintro en w13 ⟨rfl, v3, ys3, hst3⟩
      clear hc3
      rw [hm0] at hst3
      have HST3 := hide hst3
      clear hst3
      obtain ⟨c3x, c3a, fk3, fe3, ff3, ze3, zf3⟩ := sta_facts HST3.out HBO0.out
      have c3k0 := fk3 0 k0 rfl
      have c3k1 := fk3 1 k1 rfl
      clear c2x c2a fe2 ff2 ze2 zf2 c2k0 c2k1 fk3)
   | (go_at_call 152
      have hc4 := sta_jump HST3.out i 26 ⟨eb, 0, none⟩ E (N := N1) (by simp <;> omega) (by omega)
      with_reducible refine hc4.mono ?_
      rintro en w14 ⟨rfl, v4, x4, hst4⟩
      clear hc4
      have HST4 := hide hst4
      clear hst4
      obtain ⟨c4x, c4a, fk4, fe4, ff4, ze4, zf4⟩ := sta_facts HST4.out HBO0.out
      have c4k0 := fk4 0 k0 rfl
      have c4k1 := fk4 1 k1 rfl
      clear c3x c3a fe3 ff3 ze3 zf3 c3k0 c3k1 fk4)
   | (go_at_call 110
      have hc5 := sta_act HA HST4.out 1 k1 e1 hw1 (by decide) (N := (N1 + 1)) (by simp <;> omega) (by rw [hm1]; omega)
      with_reducible refine hc5.mono ?_
      rintro en w15 ⟨rfl, v5, ys5, hst5⟩
      clear hc5
      rw [hm1] at hst5
      have HST5 := hide hst5
      clear hst5
      obtain ⟨c5x, c5a, fk5, fe5, ff5, ze5, zf5⟩ := sta_facts HST5.out HBO0.out
      have c5k0 := fk5 0 k0 rfl
      have c5k1 := fk5 1 k1 rfl
      clear c4x c4a fe4 ff4 ze4 zf4 c4k0 c4k1 fk5)
   | (go_at_call 111
      have hc6 := sta_say HST5.out i 27 (T : Int) 0 0 0 (N := N2) (by simp <;> omega) (by omega)
      with_reducible refine hc6.mono ?_
      rintro en w16 ⟨rfl, v6, hst6⟩
      clear hc6
      have HST6 := hide hst6
      clear hst6
      obtain ⟨c6x, c6a, fk6, fe6, ff6, ze6, zf6⟩ := sta_facts HST6.out HBO0.out
      have c6k0 := fk6 0 k0 rfl
      have c6k1 := fk6 1 k1 rfl
      clear c5x c5a fe5 ff5 ze5 zf5 c5k0 c5k1 fk6)
   | (go_at_call 153
      have hh6 := sta_here HST6.out (N := E) (by simp <;> omega)
      with_reducible refine hh6.mono ?_
      rintro en w46 ⟨rfl, rfl⟩
      clear hh6
      have HST7 := hide (sta_set (u := .int .i64 (E : Int)) HST6.out HBO0.out.re.1 HBO0.out.re.2 HBO0.out.he)
      have HBO1 := hide (HBO0.out.set_e (.int .i64 (E : Int)))
      obtain ⟨c7x, c7a, fk7, fe7, ff7, ze7, zf7⟩ := sta_facts HST7.out HBO1.out
      have c7k0 := fk7 0 k0 rfl
      have c7k1 := fk7 1 k1 rfl
      clear fk7))
 first
 | go_end0
 | refine bodyPost_ret (results_none rfl _ _ _) rfl ?_
 refine ⟨rfl, ?_⟩
 have hst9 := HST7.out
 simp only [List.nil_append, List.append_assoc, List.cons_append] at hst9
 refine sta_done hst9 (fun a => E) ?_ hlo ?_
 · simp [resolve_jumps, jumpsC_append, jumpsC, jmpC, sayC, resolve, hT, hA, hN1, hN2, hE]
 · intro p pc hm
   simp [not_inr] at hm
   rcases hm with ⟨-, rfl⟩ | ⟨-, rfl⟩
   · exact ⟨eb, _, rfl, HBO1.out.re.1, HBO1.out.re.2, HBO1.out.he⟩
   · exact ⟨eb, _, rfl, HBO1.out.re.1, HBO1.out.re.2, HBO1.out.he⟩
set_option maxRecDepth 100000 in
theorem act_and (HA : ActAll P l f) (hg : Gw W B b l ad ca ge v cd rw lt cd.length) (hr : rw.length = cd.length) (hxl : lt.length ≤ cd.length) (hx : l[i]? = some ⟨37, xa, xb, xc, xd, 2⟩)
   {k0 k1 e0 e1 : Nat} (hks : kidsS l 2 (i + 1) = some [(k0, e0), (k1, e1)]) (hl : l.length ≤ 262144) (hnl : (2 : Int) ≤ (l.length : Int))
   (hw0 : Wf P l f 3 k0 e0) (hw1 : Wf P l f 3 k1 e1) {m0 m1 : List Cd} {N1 N2 F E : Nat} (hm0 : actC l f k0 cd.length = m0) (hN1 : cd.length + m0.length = N1) (hm1 : actC l f k1 (N1 + 1) = m1) (hN2 : N1 + 1 + m1.length = N2) (hF : N2 + 1 = F) (hE : F + 1 = E) (hb : E ≤ 1048576) :
   ActGoal l B b ad ca ge W v cd rw lt i (m0 ++ jmpC 23 i F :: (m1 ++ [jmpC 22 i E, sayC 2 0 0 0 0 i])) := by
 unfold ActGoal
 have HG := hide hg
 have HBX := hide ((Below.refl W.heap.size W).alloc (Nat.le_refl _) (.cells #[.int .i64 37, .int .i64 xa, .int .i64 xb, .int .i64 xc, .int .i64 xd, .int .i64 2] 49))
 have HBK := hide (Blk.new W 49 #[.int .i64 37, .int .i64 xa, .int .i64 xb, .int .i64 xc, .int .i64 xd, .int .i64 2])
 have HPL := fun W' : World => hide (show Calls Try.prog 150 #[.int .i64 37] W' fun en w' => en = .returned (.tuple #[.int .i64 0, .bool false]) ∧ w' = W' from by simpa [plainV] using plain_i W' 37)
 have HK := hide (kidsG_i (hg.grow HBX.out) i ⟨37, xa, xb, xc, xd, 2⟩ _ hx hks (show (0 : Int) ≤ 2 by decide) hnl hl)
 obtain ⟨q0, q1, _⟩ := gw_cells hg
 obtain ⟨ad', e', hab, p0, p1, p2, p3, p4, p5⟩ := acs_row hg.ke.src hx
 cases e'
 simp only at p0 p1 p2 p3 p4 p5
 have hil := (List.getElem?_eq_some_iff.1 hx).1
 have hI0 : (0 : Int) ≤ (i : Int) := by omega
 have hI1 : (i : Int) < (l.length : Int) := by omega
 have y0 : (W.alloc (.cells #[.int .i64 37, .int .i64 xa, .int .i64 xb, .int .i64 xc, .int .i64 xd, .int .i64 2] 49)).cell? ⟨W.heap.size, 0, none⟩ = some (.int .i64 37) := HBK.out.cell 0
 clear hg hx hab
 go_enter Try.func110, Try.ntmps110
 go_upto_region 6 with (first
   | (go_at_call 150; refine (HPL _).out.mono ?_; rintro en w1 ⟨rfl, rfl⟩)
   | (go_at_call 151; refine HK.out.mono ?_; rintro en w2 ⟨u, rfl, hown, hbl⟩; have HOWN := hide hown; have HBL := hide hbl; clear hown hbl))
 have hown2 : w2.ownsRow (W.alloc (.cells #[.int .i64 37, .int .i64 xa, .int .i64 xb, .int .i64 xc, .int .i64 xd, .int .i64 2] 49)).heap.size 3 1 u 2 (ints ([k0, k1].map fun r : Nat => (r : Int))) := HOWN.out
 obtain ⟨kb, cp, rfl, hcp1, hcp2⟩ := own_form hown2 (by decide)
 obtain ⟨lo, H, hst, hbo⟩ : ∃ lo H, Sta B b l ad ca ge W v cd rw lt lo H ((w2.alloc (.cells #[.int .i64 0] 3)).alloc (.cells #[.int .i64 0] 3)) v [] [] [] ∧ Boxes W lo H ⟨37, xa, xb, xc, xd, 2⟩ W.heap.size kb [k0, k1] w2.heap.size (w2.heap.size + 1) (.int .i64 0) (.int .i64 0) :=
   ⟨_, _, sta_init HG.out hr hxl (((HBX.out.trans (HBL.out.mono HBX.out.size)).alloc (Nat.le_trans HBX.out.size HBL.out.size) _).alloc (by have := HBX.out.size; have := HBL.out.size; simp at this ⊢; omega) _), boxes_init _ 0 HBK.out HBL.out hown2 (fun _ => ⟨cp, rfl⟩)⟩
 have hlo : W.heap.size ≤ lo := by have := hbo.rx; omega
 generalize ((w2.alloc (.cells #[.int .i64 0] 3)).alloc (.cells #[.int .i64 0] 3)) = W1 at hst
 generalize w2.heap.size = eb at hbo
 obtain ⟨fb, hfb⟩ : ∃ fb, eb + 1 = fb := ⟨_, rfl⟩
 rw [hfb] at hbo
 rw [hfb]
 obtain ⟨hne1, hne2, hne3, _⟩ := hbo.ne
 have HST0 := hide hst
 have HBO0 := hide hbo
 obtain ⟨c0x, c0a, fk0, fe0, ff0, ze0, zf0⟩ := sta_facts hst hbo
 have c0k0 := fk0 0 k0 rfl
 have c0k1 := fk0 1 k1 rfl
 clear fk0 hst hbo hown2 HOWN HBL HK HPL HBX HBK q0 q1 p0 p1 p2 p3 p4 p5 y0 hI0 hI1 hil hnl hcp1 hcp2 hfb
 go_wp2_with (first
   | (go_at_call 110
      have hc1 := sta_act HA HST0.out 3 k0 e0 hw0 (by decide) (N := cd.length) (by simp <;> omega) (by rw [hm0]; omega)
      with_reducible refine hc1.mono ?_
      rintro en w11 ⟨rfl, v1, ys1, hst1⟩
      clear hc1
      rw [hm0] at hst1
      have HST1 := hide hst1
      clear hst1
      obtain ⟨c1x, c1a, fk1, fe1, ff1, ze1, zf1⟩ := sta_facts HST1.out HBO0.out
      have c1k0 := fk1 0 k0 rfl
      have c1k1 := fk1 1 k1 rfl
      clear c0x c0a fe0 ff0 ze0 zf0 c0k0 c0k1 fk1)
   | (go_at_call 152
      have hc2 := sta_jump HST1.out i 23 ⟨fb, 0, none⟩ F (N := N1) (by simp <;> omega) (by omega)
      with_reducible refine hc2.mono ?_
      rintro en w12 ⟨rfl, v2, x2, hst2⟩
      clear hc2
      have HST2 := hide hst2
      clear hst2
      obtain ⟨c2x, c2a, fk2, fe2, ff2, ze2, zf2⟩ := sta_facts HST2.out HBO0.out
      have c2k0 := fk2 0 k0 rfl
      have c2k1 := fk2 1 k1 rfl
      clear c1x c1a fe1 ff1 ze1 zf1 c1k0 c1k1 fk2)
   | (go_at_call 110
      have hc3 := sta_act HA HST2.out 3 k1 e1 hw1 (by decide) (N := (N1 + 1)) (by simp <;> omega) (by rw [hm1]; omega)
      with_reducible refine hc3.mono ?_
      rintro en w13 ⟨rfl, v3, ys3, hst3⟩
      clear hc3
      rw [hm1] at hst3
      have HST3 := hide hst3
      clear hst3
      obtain ⟨c3x, c3a, fk3, fe3, ff3, ze3, zf3⟩ := sta_facts HST3.out HBO0.out
      have c3k0 := fk3 0 k0 rfl
      have c3k1 := fk3 1 k1 rfl
      clear c2x c2a fe2 ff2 ze2 zf2 c2k0 c2k1 fk3)
   | (go_at_call 152
      have hc4 := sta_jump HST3.out i 22 ⟨eb, 0, none⟩ E (N := N2) (by simp <;> omega) (by omega)
      with_reducible refine hc4.mono ?_
      rintro en w14 ⟨rfl, v4, x4, hst4⟩
      clear hc4
      have HST4 := hide hst4
      clear hst4
      obtain ⟨c4x, c4a, fk4, fe4, ff4, ze4, zf4⟩ := sta_facts HST4.out HBO0.out
      have c4k0 := fk4 0 k0 rfl
      have c4k1 := fk4 1 k1 rfl
      clear c3x c3a fe3 ff3 ze3 zf3 c3k0 c3k1 fk4)
   | (go_at_call 153
      have hh4 := sta_here HST4.out (N := F) (by simp <;> omega)
      with_reducible refine hh4.mono ?_
      rintro en w44 ⟨rfl, rfl⟩
      clear hh4
      have HST5 := hide (sta_set (u := .int .i64 (F : Int)) HST4.out HBO0.out.rf.1 HBO0.out.rf.2 HBO0.out.hf)
      have HBO1 := hide (HBO0.out.set_f (.int .i64 (F : Int)))
      obtain ⟨c5x, c5a, fk5, fe5, ff5, ze5, zf5⟩ := sta_facts HST5.out HBO1.out
      have c5k0 := fk5 0 k0 rfl
      have c5k1 := fk5 1 k1 rfl
      clear fk5)
   | (go_at_call 111
      have hc6 := sta_say HST5.out i 2 0 0 0 0 (N := F) (by simp <;> omega) (by omega)
      with_reducible refine hc6.mono ?_
      rintro en w16 ⟨rfl, v6, hst6⟩
      clear hc6
      have HST6 := hide hst6
      clear hst6
      obtain ⟨c6x, c6a, fk6, fe6, ff6, ze6, zf6⟩ := sta_facts HST6.out HBO1.out
      have c6k0 := fk6 0 k0 rfl
      have c6k1 := fk6 1 k1 rfl
      clear c5x c5a fe5 ff5 ze5 zf5 c5k0 c5k1 fk6)
   | (go_at_call 153
      have hh6 := sta_here HST6.out (N := E) (by simp <;> omega)
      with_reducible refine hh6.mono ?_
      rintro en w46 ⟨rfl, rfl⟩
      clear hh6
      have HST7 := hide (sta_set (u := .int .i64 (E : Int)) HST6.out HBO1.out.re.1 HBO1.out.re.2 HBO1.out.he)
      have HBO2 := hide (HBO1.out.set_e (.int .i64 (E : Int)))
      obtain ⟨c7x, c7a, fk7, fe7, ff7, ze7, zf7⟩ := sta_facts HST7.out HBO2.out
      have c7k0 := fk7 0 k0 rfl
      have c7k1 := fk7 1 k1 rfl
      clear fk7))
 first
 | go_end0
 | refine bodyPost_ret (results_none rfl _ _ _) rfl ?_
 refine ⟨rfl, ?_⟩
 have hst9 := HST7.out
 simp only [List.nil_append, List.append_assoc, List.cons_append] at hst9
 refine sta_done hst9 (fun a => if a = ⟨fb, 0, none⟩ then F else E) ?_ hlo ?_
 · simp [resolve_jumps, jumpsC_append, jumpsC, jmpC, sayC, resolve, hN1, hN2, hF, hE, hne3]
 · intro p pc hm
   simp [not_inr] at hm
   rcases hm with ⟨-, rfl⟩ | ⟨-, rfl⟩
   · exact ⟨fb, _, rfl, HBO2.out.rf.1, HBO2.out.rf.2, by rw [if_pos rfl]; exact HBO2.out.hf⟩
   · exact ⟨eb, _, rfl, HBO2.out.re.1, HBO2.out.re.2, by rw [if_neg (by simp [hne3])]; exact HBO2.out.he⟩
set_option maxRecDepth 100000 in
theorem act_or (HA : ActAll P l f) (hg : Gw W B b l ad ca ge v cd rw lt cd.length) (hr : rw.length = cd.length) (hxl : lt.length ≤ cd.length) (hx : l[i]? = some ⟨38, xa, xb, xc, xd, 2⟩)
   {k0 k1 e0 e1 : Nat} (hks : kidsS l 2 (i + 1) = some [(k0, e0), (k1, e1)]) (hl : l.length ≤ 262144) (hnl : (2 : Int) ≤ (l.length : Int))
   (hw0 : Wf P l f 3 k0 e0) (hw1 : Wf P l f 3 k1 e1) {m0 m1 : List Cd} {N1 A C F E : Nat} (hm0 : actC l f k0 cd.length = m0) (hN1 : cd.length + m0.length = N1) (hA : N1 + 1 = A) (hC : A + 1 = C) (hF : C + 1 = F) (hm1 : actC l f k1 F = m1) (hE : F + m1.length = E) (hb : E ≤ 1048576) :
   ActGoal l B b ad ca ge W v cd rw lt i (m0 ++ jmpC 23 i F :: sayC 2 1 0 0 0 i :: jmpC 22 i E :: m1) := by
 unfold ActGoal
 have HG := hide hg
 have HBX := hide ((Below.refl W.heap.size W).alloc (Nat.le_refl _) (.cells #[.int .i64 38, .int .i64 xa, .int .i64 xb, .int .i64 xc, .int .i64 xd, .int .i64 2] 49))
 have HBK := hide (Blk.new W 49 #[.int .i64 38, .int .i64 xa, .int .i64 xb, .int .i64 xc, .int .i64 xd, .int .i64 2])
 have HPL := fun W' : World => hide (show Calls Try.prog 150 #[.int .i64 38] W' fun en w' => en = .returned (.tuple #[.int .i64 0, .bool false]) ∧ w' = W' from by simpa [plainV] using plain_i W' 38)
 have HK := hide (kidsG_i (hg.grow HBX.out) i ⟨38, xa, xb, xc, xd, 2⟩ _ hx hks (show (0 : Int) ≤ 2 by decide) hnl hl)
 obtain ⟨q0, q1, _⟩ := gw_cells hg
 obtain ⟨ad', e', hab, p0, p1, p2, p3, p4, p5⟩ := acs_row hg.ke.src hx
 cases e'
 simp only at p0 p1 p2 p3 p4 p5
 have hil := (List.getElem?_eq_some_iff.1 hx).1
 have hI0 : (0 : Int) ≤ (i : Int) := by omega
 have hI1 : (i : Int) < (l.length : Int) := by omega
 have y0 : (W.alloc (.cells #[.int .i64 38, .int .i64 xa, .int .i64 xb, .int .i64 xc, .int .i64 xd, .int .i64 2] 49)).cell? ⟨W.heap.size, 0, none⟩ = some (.int .i64 38) := HBK.out.cell 0
 clear hg hx hab
 go_enter Try.func110, Try.ntmps110
 go_upto_region 6 with (first
   | (go_at_call 150; refine (HPL _).out.mono ?_; rintro en w1 ⟨rfl, rfl⟩)
   | (go_at_call 151; refine HK.out.mono ?_; rintro en w2 ⟨u, rfl, hown, hbl⟩; have HOWN := hide hown; have HBL := hide hbl; clear hown hbl))
 have hown2 : w2.ownsRow (W.alloc (.cells #[.int .i64 38, .int .i64 xa, .int .i64 xb, .int .i64 xc, .int .i64 xd, .int .i64 2] 49)).heap.size 3 1 u 2 (ints ([k0, k1].map fun r : Nat => (r : Int))) := HOWN.out
 obtain ⟨kb, cp, rfl, hcp1, hcp2⟩ := own_form hown2 (by decide)
 obtain ⟨lo, H, hst, hbo⟩ : ∃ lo H, Sta B b l ad ca ge W v cd rw lt lo H ((w2.alloc (.cells #[.int .i64 0] 3)).alloc (.cells #[.int .i64 0] 3)) v [] [] [] ∧ Boxes W lo H ⟨38, xa, xb, xc, xd, 2⟩ W.heap.size kb [k0, k1] w2.heap.size (w2.heap.size + 1) (.int .i64 0) (.int .i64 0) :=
   ⟨_, _, sta_init HG.out hr hxl (((HBX.out.trans (HBL.out.mono HBX.out.size)).alloc (Nat.le_trans HBX.out.size HBL.out.size) _).alloc (by have := HBX.out.size; have := HBL.out.size; simp at this ⊢; omega) _), boxes_init _ 0 HBK.out HBL.out hown2 (fun _ => ⟨cp, rfl⟩)⟩
 have hlo : W.heap.size ≤ lo := by have := hbo.rx; omega
 generalize ((w2.alloc (.cells #[.int .i64 0] 3)).alloc (.cells #[.int .i64 0] 3)) = W1 at hst
 generalize w2.heap.size = eb at hbo
 obtain ⟨fb, hfb⟩ : ∃ fb, eb + 1 = fb := ⟨_, rfl⟩
 rw [hfb] at hbo
 rw [hfb]
 obtain ⟨hne1, hne2, hne3, _⟩ := hbo.ne
 have HST0 := hide hst
 have HBO0 := hide hbo
 obtain ⟨c0x, c0a, fk0, fe0, ff0, ze0, zf0⟩ := sta_facts hst hbo
 have c0k0 := fk0 0 k0 rfl
 have c0k1 := fk0 1 k1 rfl
 clear fk0 hst hbo hown2 HOWN HBL HK HPL HBX HBK q0 q1 p0 p1 p2 p3 p4 p5 y0 hI0 hI1 hil hnl hcp1 hcp2 hfb
 go_wp2_with (first
   | (go_at_call 110
      have hc1 := sta_act HA HST0.out 3 k0 e0 hw0 (by decide) (N := cd.length) (by simp <;> omega) (by rw [hm0]; omega)
      with_reducible refine hc1.mono ?_
      rintro en w11 ⟨rfl, v1, ys1, hst1⟩
      clear hc1
      rw [hm0] at hst1
      have HST1 := hide hst1
      clear hst1
      obtain ⟨c1x, c1a, fk1, fe1, ff1, ze1, zf1⟩ := sta_facts HST1.out HBO0.out
      have c1k0 := fk1 0 k0 rfl
      have c1k1 := fk1 1 k1 rfl
      clear c0x c0a fe0 ff0 ze0 zf0 c0k0 c0k1 fk1)
   | (go_at_call 152
      have hc2 := sta_jump HST1.out i 23 ⟨fb, 0, none⟩ F (N := N1) (by simp <;> omega) (by omega)
      with_reducible refine hc2.mono ?_
      rintro en w12 ⟨rfl, v2, x2, hst2⟩
      clear hc2
      have HST2 := hide hst2
      clear hst2
      obtain ⟨c2x, c2a, fk2, fe2, ff2, ze2, zf2⟩ := sta_facts HST2.out HBO0.out
      have c2k0 := fk2 0 k0 rfl
      have c2k1 := fk2 1 k1 rfl
      clear c1x c1a fe1 ff1 ze1 zf1 c1k0 c1k1 fk2)
   | (go_at_call 111
      have hc3 := sta_say HST2.out i 2 1 0 0 0 (N := A) (by simp <;> omega) (by omega)
      with_reducible refine hc3.mono ?_
      rintro en w13 ⟨rfl, v3, hst3⟩
      clear hc3
      have HST3 := hide hst3
      clear hst3
      obtain ⟨c3x, c3a, fk3, fe3, ff3, ze3, zf3⟩ := sta_facts HST3.out HBO0.out
      have c3k0 := fk3 0 k0 rfl
      have c3k1 := fk3 1 k1 rfl
      clear c2x c2a fe2 ff2 ze2 zf2 c2k0 c2k1 fk3)
   | (go_at_call 152
      have hc4 := sta_jump HST3.out i 22 ⟨eb, 0, none⟩ E (N := C) (by simp <;> omega) (by omega)
      with_reducible refine hc4.mono ?_
      rintro en w14 ⟨rfl, v4, x4, hst4⟩
      clear hc4
      have HST4 := hide hst4
      clear hst4
      obtain ⟨c4x, c4a, fk4, fe4, ff4, ze4, zf4⟩ := sta_facts HST4.out HBO0.out
      have c4k0 := fk4 0 k0 rfl
      have c4k1 := fk4 1 k1 rfl
      clear c3x c3a fe3 ff3 ze3 zf3 c3k0 c3k1 fk4)
   | (go_at_call 153
      have hh4 := sta_here HST4.out (N := F) (by simp <;> omega)
      with_reducible refine hh4.mono ?_
      rintro en w44 ⟨rfl, rfl⟩
      clear hh4
      have HST5 := hide (sta_set (u := .int .i64 (F : Int)) HST4.out HBO0.out.rf.1 HBO0.out.rf.2 HBO0.out.hf)
      have HBO1 := hide (HBO0.out.set_f (.int .i64 (F : Int)))
      obtain ⟨c5x, c5a, fk5, fe5, ff5, ze5, zf5⟩ := sta_facts HST5.out HBO1.out
      have c5k0 := fk5 0 k0 rfl
      have c5k1 := fk5 1 k1 rfl
      clear fk5)
   | (go_at_call 110
      have hc6 := sta_act HA HST5.out 3 k1 e1 hw1 (by decide) (N := F) (by simp <;> omega) (by rw [hm1]; omega)
      with_reducible refine hc6.mono ?_
      rintro en w16 ⟨rfl, v6, ys6, hst6⟩
      clear hc6
      rw [hm1] at hst6
      have HST6 := hide hst6
      clear hst6
      obtain ⟨c6x, c6a, fk6, fe6, ff6, ze6, zf6⟩ := sta_facts HST6.out HBO1.out
      have c6k0 := fk6 0 k0 rfl
      have c6k1 := fk6 1 k1 rfl
      clear c5x c5a fe5 ff5 ze5 zf5 c5k0 c5k1 fk6)
   | (go_at_call 153
      have hh6 := sta_here HST6.out (N := E) (by simp <;> omega)
      with_reducible refine hh6.mono ?_
      rintro en w46 ⟨rfl, rfl⟩
      clear hh6
      have HST7 := hide (sta_set (u := .int .i64 (E : Int)) HST6.out HBO1.out.re.1 HBO1.out.re.2 HBO1.out.he)
      have HBO2 := hide (HBO1.out.set_e (.int .i64 (E : Int)))
      obtain ⟨c7x, c7a, fk7, fe7, ff7, ze7, zf7⟩ := sta_facts HST7.out HBO2.out
      have c7k0 := fk7 0 k0 rfl
      have c7k1 := fk7 1 k1 rfl
      clear fk7))
 first
 | go_end0
 | refine bodyPost_ret (results_none rfl _ _ _) rfl ?_
 refine ⟨rfl, ?_⟩
 have hst9 := HST7.out
 simp only [List.nil_append, List.append_assoc, List.cons_append] at hst9
 refine sta_done hst9 (fun a => if a = ⟨fb, 0, none⟩ then F else E) ?_ hlo ?_
 · simp [resolve_jumps, jumpsC_append, jumpsC, jmpC, sayC, resolve, hN1, hA, hC, hF, hE, hne3]
 · intro p pc hm
   simp [not_inr] at hm
   rcases hm with ⟨-, rfl⟩ | ⟨-, rfl⟩
   · exact ⟨fb, _, rfl, HBO2.out.rf.1, HBO2.out.rf.2, by rw [if_pos rfl]; exact HBO2.out.hf⟩
   · exact ⟨eb, _, rfl, HBO2.out.re.1, HBO2.out.re.2, by rw [if_neg (by simp [hne3])]; exact HBO2.out.he⟩
end
end Go.Proofs.Ytdpokdcendgfeaa
namespace Go.Proofs.Ytdpokdcendgfeaa
open Go.RowKit
section
variable {P : Pl} {l : List Ac} {f : Nat} {B b : Nat} {ad : Addr} {ca ge : Nat} {W : World} {v : Wv} {cd : List In} {rw : List Int} {lt : List Value} {i : Nat} {xa xb xc xd : Int}
set_option maxRecDepth 100000 in
theorem act_mark (HA : ActAll P l f) (hg : Gw W B b l ad ca ge v cd rw lt cd.length) (hr : rw.length = cd.length) (hxl : lt.length ≤ cd.length) (hx : l[i]? = some ⟨5, xa, xb, xc, xd, 2⟩)
   {k0 k1 e0 e1 : Nat} (hks : kidsS l 2 (i + 1) = some [(k0, e0), (k1, e1)]) (hl : l.length ≤ 262144) (hnl : (2 : Int) ≤ (l.length : Int))
   {y : Ac} (hy : l[k0]? = some y) (hw1 : Wf P l f 2 k1 e1) {m1 : List Cd} {N1 : Nat} (hm1 : actC l f k1 cd.length = m1) (hN1 : cd.length + m1.length = N1) (hb : N1 + 1 ≤ 1048576) :
   ActGoal l B b ad ca ge W v cd rw lt i (m1 ++ [itemC i y xa 29 30]) := by
 unfold ActGoal
 have HG := hide hg
 have HBX := hide ((Below.refl W.heap.size W).alloc (Nat.le_refl _) (.cells #[.int .i64 5, .int .i64 xa, .int .i64 xb, .int .i64 xc, .int .i64 xd, .int .i64 2] 49))
 have HBK := hide (Blk.new W 49 #[.int .i64 5, .int .i64 xa, .int .i64 xb, .int .i64 xc, .int .i64 xd, .int .i64 2])
 have HPL := fun W' : World => hide (show Calls Try.prog 150 #[.int .i64 5] W' fun en w' => en = .returned (.tuple #[.int .i64 0, .bool false]) ∧ w' = W' from by simpa [plainV] using plain_i W' 5)
 have HK := hide (kidsG_i (hg.grow HBX.out) i ⟨5, xa, xb, xc, xd, 2⟩ _ hx hks (show (0 : Int) ≤ 2 by decide) hnl hl)
 obtain ⟨q0, q1, _⟩ := gw_cells hg
 obtain ⟨ad', e', hab, p0, p1, p2, p3, p4, p5⟩ := acs_row hg.ke.src hx
 cases e'
 simp only at p0 p1 p2 p3 p4 p5
 have hil := (List.getElem?_eq_some_iff.1 hx).1
 have hI0 : (0 : Int) ≤ (i : Int) := by omega
 have hI1 : (i : Int) < (l.length : Int) := by omega
 have y0 : (W.alloc (.cells #[.int .i64 5, .int .i64 xa, .int .i64 xb, .int .i64 xc, .int .i64 xd, .int .i64 2] 49)).cell? ⟨W.heap.size, 0, none⟩ = some (.int .i64 5) := HBK.out.cell 0
 clear hg hx hab
 go_enter Try.func110, Try.ntmps110
 go_upto_region 6 with (first
   | (go_at_call 150; refine (HPL _).out.mono ?_; rintro en w1 ⟨rfl, rfl⟩)
   | (go_at_call 151; refine HK.out.mono ?_; rintro en w2 ⟨u, rfl, hown, hbl⟩; have HOWN := hide hown; have HBL := hide hbl; clear hown hbl))
 have hown2 : w2.ownsRow (W.alloc (.cells #[.int .i64 5, .int .i64 xa, .int .i64 xb, .int .i64 xc, .int .i64 xd, .int .i64 2] 49)).heap.size 3 1 u 2 (ints ([k0, k1].map fun r : Nat => (r : Int))) := HOWN.out
 obtain ⟨kb, cp, rfl, hcp1, hcp2⟩ := own_form hown2 (by decide)
 obtain ⟨lo, H, hst, hbo⟩ : ∃ lo H, Sta B b l ad ca ge W v cd rw lt lo H ((w2.alloc (.cells #[.int .i64 0] 3)).alloc (.cells #[.int .i64 0] 3)) v [] [] [] ∧ Boxes W lo H ⟨5, xa, xb, xc, xd, 2⟩ W.heap.size kb [k0, k1] w2.heap.size (w2.heap.size + 1) (.int .i64 0) (.int .i64 0) :=
   ⟨_, _, sta_init HG.out hr hxl (((HBX.out.trans (HBL.out.mono HBX.out.size)).alloc (Nat.le_trans HBX.out.size HBL.out.size) _).alloc (by have := HBX.out.size; have := HBL.out.size; simp at this ⊢; omega) _), boxes_init _ 0 HBK.out HBL.out hown2 (fun _ => ⟨cp, rfl⟩)⟩
 have hlo : W.heap.size ≤ lo := by have := hbo.rx; omega
 generalize ((w2.alloc (.cells #[.int .i64 0] 3)).alloc (.cells #[.int .i64 0] 3)) = W1 at hst
 generalize w2.heap.size = eb at hbo
 obtain ⟨fb, hfb⟩ : ∃ fb, eb + 1 = fb := ⟨_, rfl⟩
 rw [hfb] at hbo
 rw [hfb]
 obtain ⟨hne1, hne2, hne3, _⟩ := hbo.ne
 have HST0 := hide hst
 have HBO0 := hide hbo
 obtain ⟨c0x, c0a, fk0, fe0, ff0, ze0, zf0⟩ := sta_facts hst hbo
 have c0k0 := fk0 0 k0 rfl
 have c0k1 := fk0 1 k1 rfl
 clear fk0 hst hbo hown2 HOWN HBL HK HPL HBX HBK q0 q1 p0 p1 p2 p3 p4 p5 y0 hI0 hI1 hil hnl hcp1 hcp2 hfb
 go_upto_region 40 with (first
   | (go_at_call 110
      have hc1 := sta_act HA HST0.out 2 k1 e1 hw1 (by decide) (N := cd.length) (by simp <;> omega) (by rw [hm1]; omega)
      with_reducible refine hc1.mono ?_
      rintro en w11 ⟨rfl, v1, ys1, hst1⟩
      clear hc1
      rw [hm1] at hst1
      have HST1 := hide hst1
      clear hst1
      obtain ⟨c1x, c1a, fk1, fe1, ff1, ze1, zf1⟩ := sta_facts HST1.out HBO0.out
      have c1k0 := fk1 0 k0 rfl
      have c1k1 := fk1 1 k1 rfl
      clear c0x c0a fe0 ff0 ze0 zf0 c0k0 c0k1 fk1))
 obtain ⟨q0, _⟩ := gw_cells HST1.out.g
 obtain ⟨ad', e', hab, p0, p1, p2, p3, p4, p5⟩ := acs_row HST1.out.g.ke.src hy
 cases e'
 have hk0 := (List.getElem?_eq_some_iff.1 hy).1
 have hK0 : (0 : Int) ≤ (k0 : Int) := by omega
 have hK1 : (k0 : Int) < (l.length : Int) := by omega
 have hc9 := sta_item HST1.out.drew i y xa 29 30 (N := N1) (by simp <;> omega) (by omega)
 simp only [Ac.val] at hc9
 have HC9 := hide hc9
 clear hab hy hc9
 go_still_tail 13, (by kernel_rfl)
 change wpList _ _ _ _ _ w11.drew
 go_wp2_with (go_at_call 154
              with_reducible refine HC9.out.mono ?_
              rintro en w30 ⟨rfl, v30, hst9⟩
              have HST9 := hide hst9
              clear hst9)
 first
 | go_end0
 | refine bodyPost_ret (results_none rfl _ _ _) rfl ?_
 refine ⟨rfl, ?_⟩
 have hst9 := HST9.out
 simp only [List.nil_append, List.append_assoc, List.cons_append] at hst9
 have hi := itemC_to i y xa 29 30
 refine sta_done hst9 (fun a => 0) ?_ hlo ?_
 · simp [resolve_jumps, jumpsC_append, jumpsC, hi]
 · intro p pc hm
   simp [not_inr] at hm
set_option maxRecDepth 100000 in
theorem act_tag (HA : ActAll P l f) (hg : Gw W B b l ad ca ge v cd rw lt cd.length) (hr : rw.length = cd.length) (hxl : lt.length ≤ cd.length) (hx : l[i]? = some ⟨25, xa, xb, xc, xd, 1⟩)
   {k0 e0 : Nat} (hks : kidsS l 1 (i + 1) = some [(k0, e0)]) (hl : l.length ≤ 262144) (hnl : (1 : Int) ≤ (l.length : Int))
   {y : Ac} (hy : l[k0]? = some y) (hb : cd.length + 1 ≤ 1048576) :
   ActGoal l B b ad ca ge W v cd rw lt i ([itemC i y xa 9 10]) := by
 unfold ActGoal
 have HG := hide hg
 have HBX := hide ((Below.refl W.heap.size W).alloc (Nat.le_refl _) (.cells #[.int .i64 25, .int .i64 xa, .int .i64 xb, .int .i64 xc, .int .i64 xd, .int .i64 1] 49))
 have HBK := hide (Blk.new W 49 #[.int .i64 25, .int .i64 xa, .int .i64 xb, .int .i64 xc, .int .i64 xd, .int .i64 1])
 have HPL := fun W' : World => hide (show Calls Try.prog 150 #[.int .i64 25] W' fun en w' => en = .returned (.tuple #[.int .i64 0, .bool false]) ∧ w' = W' from by simpa [plainV] using plain_i W' 25)
 have HK := hide (kidsG_i (hg.grow HBX.out) i ⟨25, xa, xb, xc, xd, 1⟩ _ hx hks (show (0 : Int) ≤ 1 by decide) hnl hl)
 obtain ⟨q0, q1, _⟩ := gw_cells hg
 obtain ⟨ad', e', hab, p0, p1, p2, p3, p4, p5⟩ := acs_row hg.ke.src hx
 cases e'
 simp only at p0 p1 p2 p3 p4 p5
 have hil := (List.getElem?_eq_some_iff.1 hx).1
 have hI0 : (0 : Int) ≤ (i : Int) := by omega
 have hI1 : (i : Int) < (l.length : Int) := by omega
 have y0 : (W.alloc (.cells #[.int .i64 25, .int .i64 xa, .int .i64 xb, .int .i64 xc, .int .i64 xd, .int .i64 1] 49)).cell? ⟨W.heap.size, 0, none⟩ = some (.int .i64 25) := HBK.out.cell 0
 clear hg hx hab
 go_enter Try.func110, Try.ntmps110
 go_upto_region 6 with (first
   | (go_at_call 150; refine (HPL _).out.mono ?_; rintro en w1 ⟨rfl, rfl⟩)
   | (go_at_call 151; refine HK.out.mono ?_; rintro en w2 ⟨u, rfl, hown, hbl⟩; have HOWN := hide hown; have HBL := hide hbl; clear hown hbl))
 have hown2 : w2.ownsRow (W.alloc (.cells #[.int .i64 25, .int .i64 xa, .int .i64 xb, .int .i64 xc, .int .i64 xd, .int .i64 1] 49)).heap.size 3 1 u 1 (ints ([k0].map fun r : Nat => (r : Int))) := HOWN.out
 obtain ⟨kb, cp, rfl, hcp1, hcp2⟩ := own_form hown2 (by decide)
 obtain ⟨lo, H, hst, hbo⟩ : ∃ lo H, Sta B b l ad ca ge W v cd rw lt lo H ((w2.alloc (.cells #[.int .i64 0] 3)).alloc (.cells #[.int .i64 0] 3)) v [] [] [] ∧ Boxes W lo H ⟨25, xa, xb, xc, xd, 1⟩ W.heap.size kb [k0] w2.heap.size (w2.heap.size + 1) (.int .i64 0) (.int .i64 0) :=
   ⟨_, _, sta_init HG.out hr hxl (((HBX.out.trans (HBL.out.mono HBX.out.size)).alloc (Nat.le_trans HBX.out.size HBL.out.size) _).alloc (by have := HBX.out.size; have := HBL.out.size; simp at this ⊢; omega) _), boxes_init _ 0 HBK.out HBL.out hown2 (fun _ => ⟨cp, rfl⟩)⟩
 have hlo : W.heap.size ≤ lo := by have := hbo.rx; omega
 generalize ((w2.alloc (.cells #[.int .i64 0] 3)).alloc (.cells #[.int .i64 0] 3)) = W1 at hst
 generalize w2.heap.size = eb at hbo
 obtain ⟨fb, hfb⟩ : ∃ fb, eb + 1 = fb := ⟨_, rfl⟩
 rw [hfb] at hbo
 rw [hfb]
 obtain ⟨hne1, hne2, hne3, _⟩ := hbo.ne
 have HST0 := hide hst
 have HBO0 := hide hbo
 obtain ⟨c0x, c0a, fk0, fe0, ff0, ze0, zf0⟩ := sta_facts hst hbo
 have c0k0 := fk0 0 k0 rfl
 clear fk0 hst hbo hown2 HOWN HBL HK HPL HBX HBK q0 q1 p0 p1 p2 p3 p4 p5 y0 hI0 hI1 hil hnl hcp1 hcp2 hfb
 go_upto_region 42 with fail
 obtain ⟨q0, _⟩ := gw_cells HST0.out.g
 obtain ⟨ad', e', hab, p0, p1, p2, p3, p4, p5⟩ := acs_row HST0.out.g.ke.src hy
 cases e'
 have hk0 := (List.getElem?_eq_some_iff.1 hy).1
 have hK0 : (0 : Int) ≤ (k0 : Int) := by omega
 have hK1 : (k0 : Int) < (l.length : Int) := by omega
 have hc9 := sta_item HST0.out.drew i y xa 9 10 (N := cd.length) (by simp <;> omega) (by omega)
 simp only [Ac.val] at hc9
 have HC9 := hide hc9
 clear hab hy hc9
 go_still_tail 13, (by kernel_rfl)
 change wpList _ _ _ _ _ W1.drew
 go_wp2_with (go_at_call 154
              with_reducible refine HC9.out.mono ?_
              rintro en w30 ⟨rfl, v30, hst9⟩
              have HST9 := hide hst9
              clear hst9)
 first
 | go_end0
 | refine bodyPost_ret (results_none rfl _ _ _) rfl ?_
 refine ⟨rfl, ?_⟩
 have hst9 := HST9.out
 simp only [List.nil_append, List.append_assoc, List.cons_append] at hst9
 have hi := itemC_to i y xa 9 10
 refine sta_done hst9 (fun a => 0) ?_ hlo ?_
 · simp [resolve_jumps, jumpsC_append, jumpsC, hi]
 · intro p pc hm
   simp [not_inr] at hm
end
end Go.Proofs.Ytdpokdcendgfeaa
