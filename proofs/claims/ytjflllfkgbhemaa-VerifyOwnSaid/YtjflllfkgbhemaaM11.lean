/- Several texts in one: The walk of the reference's Heights. The walk of VerifyHeights. The walk of the reference's Make on the empty plan. Rows of rows that the law VerifyOwn keeps. Programs that were handed in, as a list. What the walk of VerifyOwn keeps through a round. append to kept numbers, for the walk of VerifyOwn. Conditions: those of each. -/
import Derived.Test.YtjflllfkgbhemaaM9
import Derived.Maps.AppendAt
import Derived.ArgAppend
/- The walk of the reference's Heights. Conditions: the program lies in memory. -/
namespace Go.Proofs.Ytjflllfkgbhemaa
open Go.RowKit Go.PlainAid
theorem put_there {ats : List St} {u : Int × St} {m : Nat} (h : (atSt ats (m : Int)).there = true) : (atSt (putSt ats u) (m : Int)).there = true := by
  unfold putSt
  by_cases hk : u.1.toNat < ats.length
  · rw [atSt_set _ _ hk]
    split
    · rfl
    · exact h
  · rw [List.set_eq_of_length_le (by omega)]
    exact h
theorem puts_there {m : Nat} : ∀ (l : List (Int × St)) (ats : List St), (atSt ats (m : Int)).there = true → (atSt (l.foldl putSt ats) (m : Int)).there = true
  | [], _, h => h
  | u :: l, ats, h => puts_there l (putSt ats u) (put_there h)
theorem look_there {P : Prg} {n : Nat} {x : Ins} {ats : List St} (h : (lookV P n x (atSt ats (n : Int)) ats).1 = 0) : (atSt ats (n : Int)).there = true ∧ ∀ m : Nat, (atSt ats (m : Int)).there = true → (atSt (lookV P n x (atSt ats (n : Int)) ats).2 (m : Int)).there = true := by
  refine ⟨?_, fun m hm => ?_⟩
  · cases ht : (atSt ats (n : Int)).there
    · unfold lookV at h
      rw [if_pos ht] at h
      exact absurd h (by simp)
    · rfl
  · obtain ⟨_, _, _, _, e⟩ := look_good h
    rw [e]
    exact puts_there _ _ hm
theorem looks_there {P : Prg} : ∀ (k n : Nat) (ats : List St), (looksV P k n ats).1 = 0 → (∀ m : Nat, (atSt ats (m : Int)).there = true → (atSt (looksV P k n ats).2.2 (m : Int)).there = true) ∧ (∀ m : Nat, n ≤ m → m < n + k → (atSt (looksV P k n ats).2.2 (m : Int)).there = true)
  | 0, n, ats, _ => ⟨fun _ h => h, fun m h1 h2 => by omega⟩
  | k + 1, n, ats, h => by
    rw [looksV] at h ⊢
    by_cases h0 : (lookV P n (insAt P (n : Int)) (atSt ats (n : Int)) ats).1 = 0
    · rw [if_pos h0] at h ⊢
      obtain ⟨a1, a2⟩ := looks_there k (n + 1) _ h
      obtain ⟨b1, b2⟩ := look_there h0
      refine ⟨fun m hm => a1 m (b2 m hm), fun m h1 h2 => ?_⟩
      rcases Nat.eq_or_lt_of_le h1 with e | e
      · subst e
        exact a1 n (b2 n b1)
      · exact a2 m (by omega) (by omega)
    · rw [if_neg h0] at h
      exact absurd h h0
theorem look_of_run {P : Prg} (h : (runV P).1 = 0) : (lookF P).1 = 0 := by
  by_cases h0 : (lookF P).1 = 0
  · exact h0
  · have := (run_of_bad h0).1
    rw [h] at this
    exact absurd this.symm h0
theorem ats_of_run {P : Prg} (h : (runV P).1 = 0) : (runV P).2.2 = (looksV P P.cd.length 0 (ats0 P)).2.2 := by
  obtain ⟨h0, h1, _⟩ := look_ok (look_of_run h)
  cases ho : overV (fuelK P P.cd.length) (begins P) with
  | none =>
    have := runV_ok h0 (n := (looksV P P.cd.length 0 (ats0 P)).2.1) (ats := (looksV P P.cd.length 0 (ats0 P)).2.2) (by rw [← h1]) ho
    rw [this]
  | some b =>
    have := (run_of_over (look_of_run h) ho).1
    rw [h] at this
    exact absurd this (by decide)
theorem hts_at {P : Prg} {rs : List Rs} {ups : List Int} (h : (looksV P P.cd.length 0 (ats0 P)).1 = 0) (hr : Rel P P.cd.length (looksV P P.cd.length 0 (ats0 P)).2.2 rs ups) {i : Nat} (hi : i < P.cd.length) : ∃ s, (looksV P P.cd.length 0 (ats0 P)).2.2[i]? = some s ∧ (atRs rs (i : Int)).ty.size = s.ty.size := by
  have ht := (looks_there _ _ _ h).2 i (Nat.zero_le _) (by omega)
  have hlt : i < (looksV P P.cd.length 0 (ats0 P)).2.2.length := by rw [hr.la]; exact hi
  refine ⟨atSt (looksV P P.cd.length 0 (ats0 P)).2.2 (i : Int), by simp [atSt, hlt], ?_⟩
  rw [(hr.on i ht).1]
  exact cvB_size _
theorem costsR_slice {B : Nat} {w : World} {P : Prg} {v1 : Value} {m : Int} (h : CostsR B w (.agg #[v1, .int .i64 m]) P) : ∃ oa n ca, v1 = .slice oa n ca := by
  by_cases he : (runV P).1 = 0
  · obtain ⟨v2, e, hown⟩ := h.2 he
    injection e with e
    simp only [Array.mk.injEq, List.cons.injEq, and_true] at e
    obtain ⟨oa, ca, hv⟩ := own_slice hown
    exact ⟨oa, _, ca, e.1.trans hv⟩
  · have e := h.1 he
    injection e with e
    simp only [Array.mk.injEq, List.cons.injEq, and_true] at e
    exact ⟨_, _, _, e.1⟩
def HeightsRP (w : World) (P : Prg) : Ending → World → Prop := fun en w' => ∃ v, en = .returned (.tuple #[v, .agg #[.int .i64 (runV P).1, .int .i64 (runV P).2.1]]) ∧ HtsAre w.heap.size w' v P ∧ Below w.heap.size w w'
theorem runFits {P : Prg} (h : (runV P).1 = 0) : ∀ (i : Nat) (s : St), (runV P).2.2[i]? = some s → s.ty.size ≤ 256 := by
  obtain ⟨h0, h1, _⟩ := look_ok (look_of_run h)
  rw [ats_of_run h]
  have hf : ∀ (k n : Nat) (ats : List St), n + k = P.cd.length → ats.length = P.cd.length → Fits P ats → Fits P (looksV P k n ats).2.2 := by
    intro k
    induction k with
    | zero => intro n ats _ _ h; exact h
    | succ k ih =>
      intro n ats hn hl hfit
      rw [looksV]
      split
      · have hlt : n < ats.length := by omega
        have hs : ats[n]? = some (atSt ats (n : Int)) := by simp [atSt, hlt]
        obtain ⟨a, b⟩ := look_fits (x := insAt P (n : Int)) (by omega) hs hfit
        exact ih (n + 1) _ (by omega) (by rw [b]; exact hl) a
      · exact hfit
  intro i s hs
  exact (hf P.cd.length 0 (ats0 P) (by omega) (rel0 h0).la (ats0_fits P) i s hs).ty
set_option linter.unusedVariables false in
set_option linter.unusedSimpArgs false in
set_option maxRecDepth 100000 in
set_option maxHeartbeats 40000000 in
theorem heights_r (w : World) (p : PV) (P : Prg) (h : AMem w p P) : Calls Try.prog 18 #[p.val] w (HeightsRP w P) := by
  have hres : Try.f18.results = #[.tmp 2, .cell 3 35] := by kernel_rfl
  have HRES := hide hres
  clear hres
  have HRN := fun (W : World) (hb : Below w.heap.size w W) => hide (run_r W p P (h.below hb))
  have HLK := fun (W : World) (hb : Below w.heap.size w W) => hide (look_r W p P (h.below hb))
  have HM := hide h
  obtain ⟨e1, e2, e3, e4, e5, e6, _, _, _, _, _, lens⟩ := h
  obtain ⟨ga, va, ta, oa, ca, gl, gc, vl, vc, tl, tc, ol, oc, cl, cc, miss⟩ := p
  simp only at e1 e2 e3 e4 e5 e6
  subst e1 e2 e3 e4 e5 e6
  simp only [PV.val] at *
  obtain ⟨i3, hi3, hz0, hz1, hz2⟩ := info_parts info3
  have hW1 : Below w.heap.size w ((w.alloc (.cells #[.slice ga P.gh.length gc, .slice va P.vs.length vc, .slice ta P.ts.length tc, .slice oa P.os.length oc, .int .i64 P.miss, .slice ca P.cd.length cc] 28)).alloc (.cells #[.int .i64 0, .int .i64 0] 35)) := ((Below.refl _ w).alloc (Nat.le_refl _) _).alloc (by simp) _
  have HP1 := hide ((Blk.new w 28 #[.slice ga P.gh.length gc, .slice va P.vs.length vc, .slice ta P.ts.length tc, .slice oa P.os.length oc, .int .i64 P.miss, .slice ca P.cd.length cc]).alloc (.cells #[.int .i64 0, .int .i64 0] 35))
  have HF1 : Hid (Blk ((w.alloc (.cells #[.slice ga P.gh.length gc, .slice va P.vs.length vc, .slice ta P.ts.length tc, .slice oa P.os.length oc, .int .i64 P.miss, .slice ca P.cd.length cc] 28)).alloc (.cells #[.int .i64 0, .int .i64 0] 35)) (w.heap.size + 1) 35 #[.int .i64 0, .int .i64 0]) := hide (by
    have := Blk.new (w.alloc (.cells #[.slice ga P.gh.length gc, .slice va P.vs.length vc, .slice ta P.ts.length tc, .slice oa P.os.length oc, .int .i64 P.miss, .slice ca P.cd.length cc] 28)) 35 #[.int .i64 0, .int .i64 0]
    simpa using this)
  have HB1 := hide hW1
  clear hW1 lens
  unfold RunRP at HRN
  unfold LookP at HLK
  obtain ⟨e, he⟩ : ∃ e, (runV P).1 = e := ⟨_, rfl⟩
  obtain ⟨ra, hra⟩ : ∃ e, (runV P).2.1 = e := ⟨_, rfl⟩
  have HE := hide he
  have HRA := hide hra
  simp only [he, hra] at HRN
  clear he hra
  go_enter Try.func18, Try.ntmps18
  go_wp2_with fail
  go_at_call 14
  refine (HRN _ HB1.out).out.mono ?_
  rintro en w2 ⟨v1, m1, rfl, hc2, hb2⟩
  obtain ⟨o1, n1, c1, rfl⟩ := costsR_slice hc2
  clear hc2
  have hb3 : Below w2.heap.size w2 ((w2.alloc (.cells #[.slice o1 n1 c1, .int .i64 m1] 32)).alloc (.cells #[.int .i64 e, .int .i64 ra] 35)) := ((Below.refl _ w2).alloc (Nat.le_refl _) _).alloc (by simp) _
  have HP3 := hide ((HP1.out.below hb2 HP1.out.lt).below hb3 (HP1.out.below hb2 HP1.out.lt).lt)
  have HF3 := hide ((HF1.out.below hb2 HF1.out.lt).below hb3 (HF1.out.below hb2 HF1.out.lt).lt)
  have HB3 := hide ((HB1.out.trans (hb2.mono HB1.out.size)).trans (hb3.mono (Nat.le_trans HB1.out.size hb2.size)))
  have HX3 : Hid (Blk ((w2.alloc (.cells #[.slice o1 n1 c1, .int .i64 m1] 32)).alloc (.cells #[.int .i64 e, .int .i64 ra] 35)) (w2.heap.size + 1) 35 #[.int .i64 e, .int .i64 ra]) := hide (by
    have := Blk.new (w2.alloc (.cells #[.slice o1 n1 c1, .int .i64 m1] 32)) 35 #[.int .i64 e, .int .i64 ra]
    simpa using this)
  have hsz : w.heap.size + 2 ≤ w2.heap.size := by have := hb2.size; simp at this; omega
  have HSZ := hide hsz
  have hn1 : ¬ w2.heap.size + 1 = w.heap.size + 1 := by omega
  have hn2 : ¬ w.heap.size + 1 = w2.heap.size + 1 := by omega
  clear hb2 hb3
  skip
  by_cases hz : e = 0
  case neg =>
    have hb1 : (e != 0) = true := by simpa using hz
    have hb2 : (e == 0) = false := by simpa using hz
    have HNZ := hide hz
    clear hz
    have d0 : ((w2.alloc (.cells #[.slice o1 n1 c1, .int .i64 m1] 32)).alloc (.cells #[.int .i64 e, .int .i64 ra] 35)).cell? ⟨w.heap.size + 1, 0, none⟩ = some (.int .i64 0) := by first | (rw [HF3.out.cell]; rfl) | (rw [HF3.out.drew.cell]; rfl)
    have d1 : ((w2.alloc (.cells #[.slice o1 n1 c1, .int .i64 m1] 32)).alloc (.cells #[.int .i64 e, .int .i64 ra] 35)).cell? ⟨w.heap.size + 1, 1, none⟩ = some (.int .i64 0) := by first | (rw [HF3.out.cell]; rfl) | (rw [HF3.out.drew.cell]; rfl)
    have yd0 : ((w2.alloc (.cells #[.slice o1 n1 c1, .int .i64 m1] 32)).alloc (.cells #[.int .i64 e, .int .i64 ra] 35)).drew.cell? ⟨w.heap.size + 1, 0, none⟩ = some (.int .i64 0) := by first | (rw [HF3.out.cell]; rfl) | (rw [HF3.out.drew.cell]; rfl)
    have yd1 : ((w2.alloc (.cells #[.slice o1 n1 c1, .int .i64 m1] 32)).alloc (.cells #[.int .i64 e, .int .i64 ra] 35)).drew.cell? ⟨w.heap.size + 1, 1, none⟩ = some (.int .i64 0) := by first | (rw [HF3.out.cell]; rfl) | (rw [HF3.out.drew.cell]; rfl)
    have df0 := HF3.out.frozen 0
    have df1 := HF3.out.frozen 1
    have df0d := HF3.out.drew.frozen 0
    have df1d := HF3.out.drew.frozen 1
    go_wp2_with fail
    go_region
    all_goals
      try go_wp2_with fail
      have hbf := (HB3.out.setCell (by show w.heap.size ≤ w.heap.size + 1; omega) (.int .i64 e) (p := ⟨w.heap.size + 1, 0, none⟩)).setCell (by show w.heap.size ≤ w.heap.size + 1; omega) (.int .i64 ra) (p := ⟨w.heap.size + 1, 1, none⟩)
      have hdf := (HF3.out.set_ 0 (.int .i64 e)).set_ 1 (.int .i64 ra)
      have HBF := hide hbf
      have HDF := hide hdf
      clear hbf hdf
      generalize ((((w2.alloc (.cells #[.slice o1 n1 c1, .int .i64 m1] 32)).alloc (.cells #[.int .i64 e, .int .i64 ra] 35)).setCell ⟨w.heap.size + 1, 0, none⟩ (.int .i64 e)).setCell ⟨w.heap.size + 1, 1, none⟩ (.int .i64 ra)) = Wy at *
      have z2 : Wy.cell? ⟨w.heap.size + 1, 0, none⟩ = some (.int .i64 e) := by rw [HDF.out.cell]; rfl
      have z3 : Wy.cell? ⟨w.heap.size + 1, 1, none⟩ = some (.int .i64 ra) := by rw [HDF.out.cell]; rfl
      have z2d : Wy.drew.cell? ⟨w.heap.size + 1, 0, none⟩ = some (.int .i64 e) := z2
      have z3d : Wy.drew.cell? ⟨w.heap.size + 1, 1, none⟩ = some (.int .i64 ra) := z3
      refine bodyPost_ret (v := .tuple #[.slice none 0 0, .agg #[.int .i64 e, .int .i64 ra]]) ?_ rfl ?_
      · simp only [results, HRES.out]
        go_simp
      · unfold HeightsRP
        exact ⟨_, by rw [HE.out, HRA.out], ⟨fun _ => rfl, fun h0 => absurd (HE.out.symm.trans h0) HNZ.out⟩, by first | exact HBF.out.drew | exact HBF.out⟩
  subst hz
  have hlo := look_of_run HE.out
  obtain ⟨hcv, hlz, hl2⟩ := look_ok hlo
  have hats := ats_of_run HE.out
  have HLZ := hide hlz
  have HATS := hide hats
  obtain ⟨hln, hcl, _⟩ := check_len hcv
  have hra0 : ra = 0 := by rw [← HRA.out]; exact runV_zero HE.out
  subst hra0
  simp only [hlo, hl2, true_implies] at HLK
  clear hlo hcv hlz hl2 hats
  have q0 : ((w2.alloc (.cells #[.slice o1 n1 c1, .int .i64 m1] 32)).alloc (.cells #[.int .i64 0, .int .i64 0] 35)).cell? ⟨w.heap.size, 0, none⟩ = some (.slice ga P.gh.length gc) := by rw [HP3.out.cell]; rfl
  have q1 : ((w2.alloc (.cells #[.slice o1 n1 c1, .int .i64 m1] 32)).alloc (.cells #[.int .i64 0, .int .i64 0] 35)).cell? ⟨w.heap.size, 1, none⟩ = some (.slice va P.vs.length vc) := by rw [HP3.out.cell]; rfl
  have q2 : ((w2.alloc (.cells #[.slice o1 n1 c1, .int .i64 m1] 32)).alloc (.cells #[.int .i64 0, .int .i64 0] 35)).cell? ⟨w.heap.size, 2, none⟩ = some (.slice ta P.ts.length tc) := by rw [HP3.out.cell]; rfl
  have q3 : ((w2.alloc (.cells #[.slice o1 n1 c1, .int .i64 m1] 32)).alloc (.cells #[.int .i64 0, .int .i64 0] 35)).cell? ⟨w.heap.size, 3, none⟩ = some (.slice oa P.os.length oc) := by rw [HP3.out.cell]; rfl
  have q4 : ((w2.alloc (.cells #[.slice o1 n1 c1, .int .i64 m1] 32)).alloc (.cells #[.int .i64 0, .int .i64 0] 35)).cell? ⟨w.heap.size, 4, none⟩ = some (.int .i64 P.miss) := by rw [HP3.out.cell]; rfl
  have q5 : ((w2.alloc (.cells #[.slice o1 n1 c1, .int .i64 m1] 32)).alloc (.cells #[.int .i64 0, .int .i64 0] 35)).cell? ⟨w.heap.size, 5, none⟩ = some (.slice ca P.cd.length cc) := by rw [HP3.out.cell]; rfl
  go_wp2_with fail
  go_at_call 27
  refine (HLK _ HB3.out).out.mono ?_
  rintro en w4 ⟨pa, rfl, hb4, wb, lb, ab, ub, sb, rs, ups, sts, rfl, hbb, hL, hR⟩
  clear q0 q1 q2 q3 q4 q5
  have HL := hide (hL.alloc (.cells #[.int .i64 0, .int .i64 0] 35))
  have HR := hide hR
  have HF4 := hide ((HF3.out.below hb4 HF3.out.lt).alloc (.cells #[.int .i64 0, .int .i64 0] 35))
  have HB4 := hide ((HB3.out.trans (hb4.mono HB3.out.size)).alloc (Nat.le_trans HB3.out.size hb4.size) (.cells #[.int .i64 0, .int .i64 0] 35))
  have l60 : (w4.alloc (.cells #[.int .i64 0, .int .i64 0] 35)).cell? ⟨lb, 6, none⟩ = _ := HL.out.cellL.2.2.1
  clear hb4 hbb hL hR HLK
  go_wp2_with fail
  generalize w4.alloc (.cells #[.int .i64 0, .int .i64 0] 35) = W5 at *
  obtain ⟨ats, hats⟩ : ∃ a, (looksV P P.cd.length 0 (ats0 P)).2.2 = a := ⟨_, rfl⟩
  have HAT := fun (i : Nat) (hi : i < P.cd.length) => hts_at HLZ.out HR.out hi
  simp only [hats] at HAT
  have hatl := HR.out.la
  have HAE := hide (HATS.out.trans hats)
  rw [hats] at hatl
  have HATL := hide hatl
  have HATH := hide HAT
  clear hats HAT hatl
  go_loopw [8, 9] (fun tl tx W => ∃ i : Nat, tx = .int .i64 (i : Int) ∧ i ≤ P.cd.length ∧ W.ownsRow W5.heap.size 3 1 tl i (ints (htsV (ats.take i))) ∧ Below W5.heap.size W5 W) (fun _ tx _ => P.cd.length - (intOf tx).toNat)
  case atStart => exact ⟨0, rfl, Nat.zero_le _, World.ownsRow_nil _ _ _ _, Below.refl _ _⟩
  case round =>
    clear l60
    obtain ⟨i, rfl, hi, hown, hb⟩ := hrel
    rename World => W
    have u1 := IntWalk.i64_in ((i : Int) + 1) (by omega)
    have HLW := HL.out.below hb
    have l6 := HLW.cellL.2.2.1
    have HBW := hide hb
    have HOWN := hide hown
    by_cases hlt : i < P.cd.length
    · obtain ⟨s, hs, hty⟩ := HATH.out i hlt
      have r0 := (HLW.rsAt hlt _ (Below.refl _ _)).1
      obtain ⟨tz, htz⟩ : ∃ t, (atRs rs (i : Int)).ty = t := ⟨_, rfl⟩
      rw [htz] at r0 hty
      have htk := hts_take hs
      rw [← hty] at htk
      have HTK := hide htk
      have hI : (i : Int) < (P.cd.length : Int) := by omega
      have hzz : tz.size ≤ 4194304 := by
        have := hty
        have hf := (runFits HE.out) i s (by rw [HAE.out]; exact hs)
        omega
      clear hb hown HLW hs hty htz htk
      go_wp2_with (at_builtin
                   refine wpList_append_own _ rfl (.tmp 33) (.tmp 43) 25 rfl W5.heap.size 3 i3 (.int .i64 0) 1 8 Try.underlying25 hi3 hz0 hz1 hz2 rfl (by decide) _ _ _ rfl (HOWN.out.alloc _) ⟨W.heap.size, 0, none⟩ 1 1 [.int .i64 (tz.size : Int)] rfl rfl (one_cell W _) (by simp [Value.oneCell']) (by unfold maxLen; omega) (by omega) (by have := HBW.out.size; simp; omega) ?_
                   intro v' w10 hown' hgrow _
                   have HOWN2 := hide hown'
                   have HG2 := hide hgrow
                   clear hown' hgrow)
      go_roundw
      case rel => exact ⟨i + 1, by go_num, by omega, by rw [HTK.out]; exact HOWN2.out, (HBW.out.alloc HBW.out.size _).trans (below_grow HG2.out (fun k hk => (HOWN.out.lt k hk).1) (by have := HBW.out.size; simp; omega))⟩
      case measure =>
        simp only [intOf]
        omega
    · have hie : i = P.cd.length := by omega
      have hno : ¬ (i : Int) < (P.cd.length : Int) := by omega
      have hown2 := HOWN.out
      rw [hie, List.take_of_length_le (by rw [HATL.out]; exact Nat.le_refl _)] at hown2
      have kF := HF4.out.below HBW.out HF4.out.lt
      have d0 : W.cell? ⟨w.heap.size + 1, 0, none⟩ = some (.int .i64 0) := by rw [kF.cell]; rfl
      have d1 : W.cell? ⟨w.heap.size + 1, 1, none⟩ = some (.int .i64 0) := by rw [kF.cell]; rfl
      have df0 := kF.frozen 0
      have df1 := kF.frozen 1
      have hne := own_blk_ne hown2 kF (by decide)
      have HOY := hide (own_down (own_far (own_far hown2 (p := ⟨w.heap.size + 1, 0, none⟩) hne (.int .i64 0)) (p := ⟨w.heap.size + 1, 1, none⟩) hne (.int .i64 0)) HB4.out.size)
      have HFY := hide ((kF.set_ 0 (.int .i64 0)).set_ 1 (.int .i64 0))
      have HBY := hide (((HB4.out.trans (HBW.out.mono HB4.out.size)).setCell (p := ⟨w.heap.size + 1, 0, none⟩) (by show w.heap.size ≤ w.heap.size + 1; omega) (.int .i64 0)).setCell (p := ⟨w.heap.size + 1, 1, none⟩) (by show w.heap.size ≤ w.heap.size + 1; omega) (.int .i64 0))
      clear hie hown2 hown hb HLW hne kF hlt hi
      go_wp2_with fail
      generalize ((W.setCell ⟨w.heap.size + 1, 0, none⟩ (.int .i64 0)).setCell ⟨w.heap.size + 1, 1, none⟩ (.int .i64 0)) = Wy at *
      have z2 : Wy.cell? ⟨w.heap.size + 1, 0, none⟩ = some (.int .i64 0) := by rw [HFY.out.cell]; rfl
      have z3 : Wy.cell? ⟨w.heap.size + 1, 1, none⟩ = some (.int .i64 0) := by rw [HFY.out.cell]; rfl
      refine bodyPost_ret (v := .tuple #[u8, .agg #[.int .i64 0, .int .i64 0]]) ?_ rfl ?_
      · simp only [results, HRES.out]
        go_simp
      · unfold HeightsRP
        exact ⟨_, by rw [HE.out, HRA.out], ⟨fun h0 => absurd HE.out h0, fun _ => by rw [HAE.out]; exact ⟨HOY.out, HATL.out⟩⟩, HBY.out⟩
end Go.Proofs.Ytjflllfkgbhemaa

/- The walk of VerifyHeights. Conditions: the program lies in memory. -/
namespace Go.Proofs.Ytjflllfkgbhemaa
open Go.RowKit
theorem hts_same {B1 B2 : Nat} {w : World} {P : Prg} {v1 v2 : Value} (h1 : HtsAre B1 w v1 P) (h2 : HtsAre B2 w v2 P) (hl : P.cd.length ≤ maxLen) :
    ∃ (l : List Int) (oa ob : Option Addr) (n ca cb : Nat), v1 = .slice oa n ca ∧ v2 = .slice ob n cb ∧ l.length = n ∧ n ≤ maxLen ∧ Src w oa n (ints l) ∧ Src w ob n (ints l) ∧ (∀ ad, oa = some ad → B1 ≤ ad.block) ∧ (∀ ad, ob = some ad → B2 ≤ ad.block) := by
  by_cases he : (runV P).1 = 0
  · obtain ⟨o1, k1⟩ := h1.2 he
    obtain ⟨o2, _⟩ := h2.2 he
    obtain ⟨oa, ca, rfl, hs1, hb1⟩ := own_src o1
    obtain ⟨ob, cb, rfl, hs2, hb2⟩ := own_src o2
    exact ⟨_, oa, ob, _, ca, cb, rfl, rfl, by simp [htsV, k1], hl, hs1, hs2, hb1, hb2⟩
  · have e1 := h1.1 he
    have e2 := h2.1 he
    subst e1 e2
    have hs : Src w none 0 (ints []) := fun h0 => absurd h0 (by decide)
    have hz : ∀ (B : Nat) (ad : Addr), (none : Option Addr) = some ad → B ≤ ad.block := fun B ad e => by cases e
    exact ⟨[], none, none, 0, 0, 0, rfl, rfl, rfl, Nat.zero_le _, hs, hs, hz _, hz _⟩
theorem hts_slice {B : Nat} {w : World} {P : Prg} {v : Value} (h : HtsAre B w v P) : ∃ oa n ca, v = .slice oa n ca := by
  by_cases he : (runV P).1 = 0
  · obtain ⟨oa, ca, e⟩ := own_slice (h.2 he).1
    exact ⟨oa, _, ca, e⟩
  · exact ⟨_, _, _, h.1 he⟩
theorem HtsAre.below {B : Nat} {w w' : World} {v : Value} {P : Prg} (h : HtsAre B w v P) (hb : Below w.heap.size w w') : HtsAre B w' v P :=
  ⟨h.1, fun h0 => ⟨own_only (S := fun _ => False) (h.2 h0).1 (Only.of_new hb) (fun _ _ h => h.elim), (h.2 h0).2⟩⟩
set_option linter.unusedVariables false in
set_option linter.unusedSimpArgs false in
set_option maxRecDepth 100000 in
set_option maxHeartbeats 40000000 in
theorem heightsl_i (w : World) (p : PV) (P : Prg) (h : AMem w p P) :
    Calls Try.prog 5 #[p.val] w fun en w' => en = .returned (.bool true) ∧ Below w.heap.size w w' := by
  have HM := hide h
  have HFAR := fun (W : World) (hb : Below w.heap.size w W) => hide (far_i W p P (h.below hb))
  have HLEND := fun (W : World) (hb : Below w.heap.size w W) => lendProgram_i W p P (h.below hb)
  have HREF := fun (W : World) (hb : Below w.heap.size w W) => hide (heights_r W p P (h.below hb))
  have HHD := fun W => hide (head_i W)
  obtain ⟨e1, e2, e3, e4, e5, e6, _, _, _, _, _, _⟩ := h
  obtain ⟨ga, va, ta, oa, ca, gl, gc, vl, vc, tl, tc, ol, oc, cl, cc, miss⟩ := p
  simp only at e1 e2 e3 e4 e5 e6
  subst e1 e2 e3 e4 e5 e6
  simp only [PV.val] at *
  have HB1 := hide ((Below.refl w.heap.size w).alloc (Nat.le_refl _) (.cells #[.slice ga P.gh.length gc, .slice va P.vs.length vc, .slice ta P.ts.length tc, .slice oa P.os.length oc, .int .i64 P.miss, .slice ca P.cd.length cc] 28))
  have HP1 := hide (Blk.new w 28 #[.slice ga P.gh.length gc, .slice va P.vs.length vc, .slice ta P.ts.length tc, .slice oa P.os.length oc, .int .i64 P.miss, .slice ca P.cd.length cc])
  obtain ⟨fv, hfv⟩ : ∃ f, farV P = f := ⟨_, rfl⟩
  simp only [hfv] at HFAR
  have HFV := hide hfv
  clear hfv
  go_enter Try.func5, Try.ntmps5
  go_wp2_with fail
  go_at_call 11
  refine (HFAR _ HB1.out).out.mono ?_
  rintro en w2 ⟨rfl, hb2⟩
  have HB2 := hide (HB1.out.trans (hb2.mono HB1.out.size))
  have HP2 := hide (HP1.out.below hb2 HP1.out.lt)
  clear hb2
  have p0 : w2.cell? ⟨w.heap.size, 0, none⟩ = some (.slice ga P.gh.length gc) := by rw [(HP2.out).cell]; rfl
  have p1 : w2.cell? ⟨w.heap.size, 1, none⟩ = some (.slice va P.vs.length vc) := by rw [(HP2.out).cell]; rfl
  have p2 : w2.cell? ⟨w.heap.size, 2, none⟩ = some (.slice ta P.ts.length tc) := by rw [(HP2.out).cell]; rfl
  have p3 : w2.cell? ⟨w.heap.size, 3, none⟩ = some (.slice oa P.os.length oc) := by rw [(HP2.out).cell]; rfl
  have p4 : w2.cell? ⟨w.heap.size, 4, none⟩ = some (.int .i64 P.miss) := by rw [(HP2.out).cell]; rfl
  have p5 : w2.cell? ⟨w.heap.size, 5, none⟩ = some (.slice ca P.cd.length cc) := by rw [(HP2.out).cell]; rfl
  cases fv
  case true =>
    go_wp2_with fail
    go_at_call 10
    refine (HHD _).out.mono ?_
    rintro en w3 ⟨rfl, hb3⟩
    have HB3 := hide (HB2.out.trans (hb3.mono HB2.out.size))
    clear hb3
    go_wp2_with fail
    go_ret
    exact ⟨rfl, HB3.out⟩
  have hl : farN P := by
    have := HFV.out
    unfold farV at this
    unfold farN
    simp at this
    omega
  have HL := hide hl
  have HLD := hide (HLEND w2 HB2.out hl)
  clear hl HLEND
  go_wp2_with fail
  go_at_call 12
  refine HLD.out.mono ?_
  rintro en w3 ⟨gg, gv, gt, go, gd, rfl, hl3, hb3⟩
  simp only [PV.val, lentPV]
  have HL3 := hide hl3
  have HB3 := hide (HB2.out.trans (hb3.mono HB2.out.size))
  have HP3 := hide (HP2.out.below hb3 HP2.out.lt)
  have HZ3 : Hid (w2.heap.size ≤ w3.heap.size) := hide hb3.size
  clear hb3 hl3 p0 p1 p2 p3 p4 p5
  have HB4 := hide (HB3.out.alloc HB3.out.size (.cells #[.slice (some ⟨gg, 0, none⟩) P.gh.length (P.gh.length + 3), .slice (some ⟨gv, 0, none⟩) P.vs.length (P.vs.length + 3), .slice (some ⟨gt, 0, none⟩) P.ts.length (P.ts.length + 5), .slice (some ⟨go, 0, none⟩) P.os.length (P.os.length + 5), .int .i64 P.miss, .slice (some ⟨gd, 0, none⟩) P.cd.length (P.cd.length + 9)] 28))
  have HL4 := hide (HL3.out.below ((Below.refl _ w3).alloc (Nat.le_refl _) (.cells #[.slice (some ⟨gg, 0, none⟩) P.gh.length (P.gh.length + 3), .slice (some ⟨gv, 0, none⟩) P.vs.length (P.vs.length + 3), .slice (some ⟨gt, 0, none⟩) P.ts.length (P.ts.length + 5), .slice (some ⟨go, 0, none⟩) P.os.length (P.os.length + 5), .int .i64 P.miss, .slice (some ⟨gd, 0, none⟩) P.cd.length (P.cd.length + 9)] 28)))
  have HP4 := hide (HP3.out.alloc (.cells #[.slice (some ⟨gg, 0, none⟩) P.gh.length (P.gh.length + 3), .slice (some ⟨gv, 0, none⟩) P.vs.length (P.vs.length + 3), .slice (some ⟨gt, 0, none⟩) P.ts.length (P.ts.length + 5), .slice (some ⟨go, 0, none⟩) P.os.length (P.os.length + 5), .int .i64 P.miss, .slice (some ⟨gd, 0, none⟩) P.cd.length (P.cd.length + 9)] 28))
  have HM4 := hide (Blk.new w3 28 #[.slice (some ⟨gg, 0, none⟩) P.gh.length (P.gh.length + 3), .slice (some ⟨gv, 0, none⟩) P.vs.length (P.vs.length + 3), .slice (some ⟨gt, 0, none⟩) P.ts.length (P.ts.length + 5), .slice (some ⟨go, 0, none⟩) P.os.length (P.os.length + 5), .int .i64 P.miss, .slice (some ⟨gd, 0, none⟩) P.cd.length (P.cd.length + 9)])
  have hl4 := HL.out
  unfold farN at hl4
  have hlm : P.gh.length ≤ maxLen ∧ P.vs.length ≤ maxLen ∧ P.ts.length ≤ maxLen ∧ P.os.length ≤ maxLen ∧ P.cd.length ≤ maxLen := by unfold maxLen; omega
  have HRUN := hide (verifyHeights_i _ _ P (HL4.out.mem hlm) (HL4.out.mv (by unfold maxLen; omega)))
  have HLM := hide hlm
  have HL4x := hide hl4
  clear hlm hl4
  simp only [PV.val, lentPV] at HRUN
  go_wp2_with fail
  go_at_call 17
  refine HRUN.out.mono ?_
  rintro en w5 ⟨v1, rfl, hc5, hb5⟩
  obtain ⟨o1, n1, c1, rfl⟩ := hts_slice hc5
  have HC5 := hide hc5
  have HP5 := hide (HP4.out.below hb5 HP4.out.lt)
  have HM5 := hide (HM4.out.below hb5 HM4.out.lt)
  have HL5 := hide (HL4.out.below hb5)
  have HB5 := hide (HB4.out.trans (hb5.mono HB4.out.size))
  have HZ5 : Hid (w3.heap.size + 1 ≤ w5.heap.size) := hide (by have := hb5.size; simp at this; omega)
  clear hb5 hc5
  have hb6 : Below w5.heap.size w5 (w5.alloc (.cells #[.int .i64 (runV P).1, .int .i64 (runV P).2.1] 35)) := (Below.refl _ w5).alloc (Nat.le_refl _) _
  have HB6 := hide (HB5.out.trans (hb6.mono HB5.out.size))
  have HP6 := hide (HP5.out.below hb6 HP5.out.lt)
  have HM6 := hide (HM5.out.below hb6 HM5.out.lt)
  have HL6 := hide (HL5.out.below hb6)
  have HC6 := hide (HC5.out.below hb6)
  have HY6 := hide (Blk.new w5 35 #[.int .i64 (runV P).1, .int .i64 (runV P).2.1])
  clear hb6
  have q0 : (w5.alloc (.cells #[.int .i64 (runV P).1, .int .i64 (runV P).2.1] 35)).cell? ⟨w.heap.size, 0, none⟩ = some (.slice ga P.gh.length gc) := by rw [(HP6.out).cell]; rfl
  have q1 : (w5.alloc (.cells #[.int .i64 (runV P).1, .int .i64 (runV P).2.1] 35)).cell? ⟨w.heap.size, 1, none⟩ = some (.slice va P.vs.length vc) := by rw [(HP6.out).cell]; rfl
  have q2 : (w5.alloc (.cells #[.int .i64 (runV P).1, .int .i64 (runV P).2.1] 35)).cell? ⟨w.heap.size, 2, none⟩ = some (.slice ta P.ts.length tc) := by rw [(HP6.out).cell]; rfl
  have q3 : (w5.alloc (.cells #[.int .i64 (runV P).1, .int .i64 (runV P).2.1] 35)).cell? ⟨w.heap.size, 3, none⟩ = some (.slice oa P.os.length oc) := by rw [(HP6.out).cell]; rfl
  have q4 : (w5.alloc (.cells #[.int .i64 (runV P).1, .int .i64 (runV P).2.1] 35)).cell? ⟨w.heap.size, 4, none⟩ = some (.int .i64 P.miss) := by rw [(HP6.out).cell]; rfl
  have q5 : (w5.alloc (.cells #[.int .i64 (runV P).1, .int .i64 (runV P).2.1] 35)).cell? ⟨w.heap.size, 5, none⟩ = some (.slice ca P.cd.length cc) := by rw [(HP6.out).cell]; rfl
  have qq0 : w5.cell? ⟨w.heap.size, 0, none⟩ = some (.slice ga P.gh.length gc) := by rw [(HP5.out).cell]; rfl
  have qq1 : w5.cell? ⟨w.heap.size, 1, none⟩ = some (.slice va P.vs.length vc) := by rw [(HP5.out).cell]; rfl
  have qq2 : w5.cell? ⟨w.heap.size, 2, none⟩ = some (.slice ta P.ts.length tc) := by rw [(HP5.out).cell]; rfl
  have qq3 : w5.cell? ⟨w.heap.size, 3, none⟩ = some (.slice oa P.os.length oc) := by rw [(HP5.out).cell]; rfl
  have qq4 : w5.cell? ⟨w.heap.size, 4, none⟩ = some (.int .i64 P.miss) := by rw [(HP5.out).cell]; rfl
  have qq5 : w5.cell? ⟨w.heap.size, 5, none⟩ = some (.slice ca P.cd.length cc) := by rw [(HP5.out).cell]; rfl
  go_wp2_with fail
  go_at_call 18
  refine (HREF _ HB6.out).out.mono ?_
  unfold HeightsRP
  rintro en w7 ⟨v2, rfl, hc7, hb7⟩
  have HC7 := hide (HC6.out.below hb7)
  have HR7 := hide hc7
  have HP7 := hide (HP6.out.below hb7 HP6.out.lt)
  have HM7 := hide (HM6.out.below hb7 HM6.out.lt)
  have HL7 := hide (HL6.out.below hb7)
  have HY7 := hide (HY6.out.below hb7 HY6.out.lt)
  have HB7 := hide (HB6.out.trans (hb7.mono HB6.out.size))
  have HZ7 : Hid (w5.heap.size + 1 ≤ w7.heap.size) := hide (by have := hb7.size; simp at this; omega)
  clear hb7 hc7 q0 qq0 q1 qq1 q2 qq2 q3 qq3 q4 qq4 q5 qq5
  obtain ⟨l, oa2, o2, n2, ca2, c2, ev, rfl, hln, hn1, hs1, hs2, hg1, hg2⟩ := hts_same HC7.out HR7.out HLM.out.2.2.2.2
  injection ev with ev1 ev2 ev3
  subst ev1 ev2 ev3
  have HS1 := hide hs1
  have HS2 := hide hs2
  have HG1 := hide hg1
  have HG2 := hide hg2
  have HLN := hide hln
  have HN1 := hide hn1
  clear hs1 hs2 hg1 hg2 hln hn1 HC7 HR7 HC6 HC5
  have hb8 : Below w7.heap.size w7 (w7.alloc (.cells #[.int .i64 (runV P).1, .int .i64 (runV P).2.1] 35)) := (Below.refl _ w7).alloc (Nat.le_refl _) _
  have HB8 := hide (HB7.out.trans (hb8.mono HB7.out.size))
  have HP8 := hide (HP7.out.below hb8 HP7.out.lt)
  have HM8 := hide (HM7.out.below hb8 HM7.out.lt)
  have HL8 := hide (HL7.out.below hb8)
  have HY8 := hide (HY7.out.below hb8 HY7.out.lt)
  have HS18 := hide (HS1.out.below hb8)
  have HS28 := hide (HS2.out.below hb8)
  have HW8 := hide (Blk.new w7 35 #[.int .i64 (runV P).1, .int .i64 (runV P).2.1])
  clear hb8
  have q0 : (w7.alloc (.cells #[.int .i64 (runV P).1, .int .i64 (runV P).2.1] 35)).cell? ⟨w.heap.size, 0, none⟩ = some (.slice ga P.gh.length gc) := by rw [(HP8.out).cell]; rfl
  have q1 : (w7.alloc (.cells #[.int .i64 (runV P).1, .int .i64 (runV P).2.1] 35)).cell? ⟨w.heap.size, 1, none⟩ = some (.slice va P.vs.length vc) := by rw [(HP8.out).cell]; rfl
  have q2 : (w7.alloc (.cells #[.int .i64 (runV P).1, .int .i64 (runV P).2.1] 35)).cell? ⟨w.heap.size, 2, none⟩ = some (.slice ta P.ts.length tc) := by rw [(HP8.out).cell]; rfl
  have q3 : (w7.alloc (.cells #[.int .i64 (runV P).1, .int .i64 (runV P).2.1] 35)).cell? ⟨w.heap.size, 3, none⟩ = some (.slice oa P.os.length oc) := by rw [(HP8.out).cell]; rfl
  have q4 : (w7.alloc (.cells #[.int .i64 (runV P).1, .int .i64 (runV P).2.1] 35)).cell? ⟨w.heap.size, 4, none⟩ = some (.int .i64 P.miss) := by rw [(HP8.out).cell]; rfl
  have q5 : (w7.alloc (.cells #[.int .i64 (runV P).1, .int .i64 (runV P).2.1] 35)).cell? ⟨w.heap.size, 5, none⟩ = some (.slice ca P.cd.length cc) := by rw [(HP8.out).cell]; rfl
  have qq0 : w7.cell? ⟨w.heap.size, 0, none⟩ = some (.slice ga P.gh.length gc) := by rw [(HP7.out).cell]; rfl
  have qq1 : w7.cell? ⟨w.heap.size, 1, none⟩ = some (.slice va P.vs.length vc) := by rw [(HP7.out).cell]; rfl
  have qq2 : w7.cell? ⟨w.heap.size, 2, none⟩ = some (.slice ta P.ts.length tc) := by rw [(HP7.out).cell]; rfl
  have qq3 : w7.cell? ⟨w.heap.size, 3, none⟩ = some (.slice oa P.os.length oc) := by rw [(HP7.out).cell]; rfl
  have qq4 : w7.cell? ⟨w.heap.size, 4, none⟩ = some (.int .i64 P.miss) := by rw [(HP7.out).cell]; rfl
  have qq5 : w7.cell? ⟨w.heap.size, 5, none⟩ = some (.slice ca P.cd.length cc) := by rw [(HP7.out).cell]; rfl
  have s0 : (w7.alloc (.cells #[.int .i64 (runV P).1, .int .i64 (runV P).2.1] 35)).cell? ⟨w3.heap.size, 0, none⟩ = some (.slice (some ⟨gg, 0, none⟩) P.gh.length (P.gh.length + 3)) := by rw [(HM8.out).cell]; rfl
  have s1 : (w7.alloc (.cells #[.int .i64 (runV P).1, .int .i64 (runV P).2.1] 35)).cell? ⟨w3.heap.size, 1, none⟩ = some (.slice (some ⟨gv, 0, none⟩) P.vs.length (P.vs.length + 3)) := by rw [(HM8.out).cell]; rfl
  have s2 : (w7.alloc (.cells #[.int .i64 (runV P).1, .int .i64 (runV P).2.1] 35)).cell? ⟨w3.heap.size, 2, none⟩ = some (.slice (some ⟨gt, 0, none⟩) P.ts.length (P.ts.length + 5)) := by rw [(HM8.out).cell]; rfl
  have s3 : (w7.alloc (.cells #[.int .i64 (runV P).1, .int .i64 (runV P).2.1] 35)).cell? ⟨w3.heap.size, 3, none⟩ = some (.slice (some ⟨go, 0, none⟩) P.os.length (P.os.length + 5)) := by rw [(HM8.out).cell]; rfl
  have s4 : (w7.alloc (.cells #[.int .i64 (runV P).1, .int .i64 (runV P).2.1] 35)).cell? ⟨w3.heap.size, 4, none⟩ = some (.int .i64 P.miss) := by rw [(HM8.out).cell]; rfl
  have s5 : (w7.alloc (.cells #[.int .i64 (runV P).1, .int .i64 (runV P).2.1] 35)).cell? ⟨w3.heap.size, 5, none⟩ = some (.slice (some ⟨gd, 0, none⟩) P.cd.length (P.cd.length + 9)) := by rw [(HM8.out).cell]; rfl
  have ss0 : w7.cell? ⟨w3.heap.size, 0, none⟩ = some (.slice (some ⟨gg, 0, none⟩) P.gh.length (P.gh.length + 3)) := by rw [(HM7.out).cell]; rfl
  have ss1 : w7.cell? ⟨w3.heap.size, 1, none⟩ = some (.slice (some ⟨gv, 0, none⟩) P.vs.length (P.vs.length + 3)) := by rw [(HM7.out).cell]; rfl
  have ss2 : w7.cell? ⟨w3.heap.size, 2, none⟩ = some (.slice (some ⟨gt, 0, none⟩) P.ts.length (P.ts.length + 5)) := by rw [(HM7.out).cell]; rfl
  have ss3 : w7.cell? ⟨w3.heap.size, 3, none⟩ = some (.slice (some ⟨go, 0, none⟩) P.os.length (P.os.length + 5)) := by rw [(HM7.out).cell]; rfl
  have ss4 : w7.cell? ⟨w3.heap.size, 4, none⟩ = some (.int .i64 P.miss) := by rw [(HM7.out).cell]; rfl
  have ss5 : w7.cell? ⟨w3.heap.size, 5, none⟩ = some (.slice (some ⟨gd, 0, none⟩) P.cd.length (P.cd.length + 9)) := by rw [(HM7.out).cell]; rfl
  have hkp := keptProgram_i w _ w2.heap.size gg gv gt go gd _ P HL8.out HM.out HB8.out HB2.out.size HL.out
  have HKP := hide hkp
  clear hkp
  simp only [PV.val, lentPV] at HKP
  go_wp2_with fail
  go_at_call 15
  refine HKP.out.mono ?_
  rintro en w9 ⟨rfl, ho9⟩
  have hlt3 : gg < w3.heap.size ∧ gv < w3.heap.size ∧ gt < w3.heap.size ∧ go < w3.heap.size ∧ gd < w3.heap.size := ⟨HL3.out.g.lt, HL3.out.v.lt, HL3.out.t.lt, HL3.out.o.lt, HL3.out.c.lt⟩
  have hz5 := HZ5.out
  have hz7 := HZ7.out
  have hy := HY8.out.only ho9 (by omega)
  have hw := HW8.out.only ho9 (by omega)
  have hs1 := HS18.out.only ho9 (fun ad e => by have := HG1.out ad e; simp at this; omega)
  have hs2 := HS28.out.only ho9 (fun ad e => by have := HG2.out ad e; simp at this; omega)
  have hb9 : Below w.heap.size w w9 := HB8.out.trans (ho9.below (fun k hk => by have := HL3.out.base; have := HB2.out.size; omega) HB8.out.size)
  have HB9 := hide hb9
  have HSC := hide (same19_i w9 _ o2 _ c1 c2 l hs1 hs2 HLN.out HN1.out)
  have y0 : w9.cell? ⟨w5.heap.size, 0, none⟩ = some (.int .i64 (runV P).1) := by rw [(hy).cell]; rfl
  have y1 : w9.cell? ⟨w5.heap.size, 1, none⟩ = some (.int .i64 (runV P).2.1) := by rw [(hy).cell]; rfl
  have ww0 : w9.cell? ⟨w7.heap.size, 0, none⟩ = some (.int .i64 (runV P).1) := by rw [(hw).cell]; rfl
  have ww1 : w9.cell? ⟨w7.heap.size, 1, none⟩ = some (.int .i64 (runV P).2.1) := by rw [(hw).cell]; rfl
  clear hy hw hs1 hs2 hb9 ho9 hlt3 hz5 hz7 q0 qq0 s0 ss0 q1 qq1 s1 ss1 q2 qq2 s2 ss2 q3 qq3 s3 ss3 q4 qq4 s4 ss4 q5 qq5 s5 ss5
  generalize (runV P).1 = re at *
  generalize (runV P).2.1 = ra at *
  go_wp2_with fail
  go_at_call 19
  refine HSC.out.mono ?_
  rintro en w10 ⟨rfl, hb10⟩
  have HB10 := hide (HB9.out.trans (hb10.mono HB9.out.size))
  clear hb10 y0 y1 ww0 ww1
  go_wp2_with fail
  go_at_call 10
  refine (HHD _).out.mono ?_
  rintro en w11 ⟨rfl, hb11⟩
  have HB11 := hide (HB10.out.trans (hb11.mono HB10.out.size))
  clear hb11
  go_wp2_with fail
  go_ret
  exact ⟨rfl, HB11.out⟩
end Go.Proofs.Ytjflllfkgbhemaa

/- The walk of the reference's Make on the empty plan. Conditions: none. -/
namespace Go.Proofs.Ytjflllfkgbhemaa
open Go.RowKit
def noPlan : Value := .agg #[.slice none 0 0, .slice none 0 0, .slice none 0 0, .slice none 0 0, .slice none 0 0]
theorem src_nil (w : World) (cs : List Value) : Src w none 0 cs := fun h => absurd h (by decide)
set_option linter.unusedVariables false in
set_option maxRecDepth 100000 in
set_option maxHeartbeats 4000000 in
theorem event0_i (w : World) : Calls Try.prog 65 #[noPlan, .slice none 0 0] w fun en w' => en = .returned (.bool true) ∧ Below w.heap.size w w' := by
  unfold noPlan
  have HB := hide ((Below.refl w.heap.size w).alloc (Nat.le_refl _) (.cells #[.slice none 0 0, .slice none 0 0, .slice none 0 0, .slice none 0 0, .slice none 0 0] 59))
  go_enter Try.func65, Try.ntmps65
  go_wp2_with fail
  go_ret
  exact ⟨rfl, HB.out⟩
set_option linter.unusedVariables false in
set_option maxRecDepth 100000 in
set_option maxHeartbeats 4000000 in
theorem add0_i (w : World) (g : Nat) (e : Int) : Calls Try.prog 40 #[.pointer (some ⟨g, 0, none⟩), .int .i64 e, .slice none 0 0] w fun en w' => en = .returned (.int .i64 (-1)) ∧ w' = w := by
  go_enter Try.func40, Try.ntmps40
  go_wp2_with fail
  go_ret
  exact ⟨rfl, rfl⟩
set_option linter.unusedVariables false in
set_option maxRecDepth 100000 in
set_option maxHeartbeats 4000000 in
theorem check0_i (w : World) : Calls Try.prog 39 #[noPlan] w fun en w' => en = .returned (.int .i64 0) ∧ Below w.heap.size w w' := by
  have HV := fun (W : World) => hide (vars_r W none 0 0 [] (src_nil W _) rfl (by unfold maxLen; omega))
  have HT := fun (W : World) => hide (tags_r W none 0 0 [] (src_nil W _) rfl (by unfold maxLen; omega))
  have HE := fun (W : World) => hide (event0_i W)
  unfold noPlan at *
  have HB := hide ((Below.refl w.heap.size w).alloc (Nat.le_refl _) (.cells #[.slice none 0 0, .slice none 0 0, .slice none 0 0, .slice none 0 0, .slice none 0 0] 59))
  have HK := hide (Blk.new w 59 #[.slice none 0 0, .slice none 0 0, .slice none 0 0, .slice none 0 0, .slice none 0 0])
  go_enter Try.func39, Try.ntmps39
  go_wp2_with fail
  go_at_call 54
  refine (HV _).out.mono ?_
  rintro en w1 ⟨rfl, hb1⟩
  have k1 := HK.out.below hb1 HK.out.lt
  have c0 : w1.cell? ⟨w.heap.size, 0, none⟩ = some (.slice none 0 0) := by rw [k1.cell]; rfl
  have c1 : w1.cell? ⟨w.heap.size, 1, none⟩ = some (.slice none 0 0) := by rw [k1.cell]; rfl
  have c2 : w1.cell? ⟨w.heap.size, 2, none⟩ = some (.slice none 0 0) := by rw [k1.cell]; rfl
  have c3 : w1.cell? ⟨w.heap.size, 3, none⟩ = some (.slice none 0 0) := by rw [k1.cell]; rfl
  have HK1 := hide k1
  have HB1 := hide (HB.out.trans (hb1.mono HB.out.size))
  clear hb1 k1
  go_wp2_with fail
  go_at_call 55
  refine (HT _).out.mono ?_
  rintro en w2 ⟨rfl, hb2⟩
  have k2 := HK1.out.below hb2 HK1.out.lt
  have d0 : w2.cell? ⟨w.heap.size, 0, none⟩ = some (.slice none 0 0) := by rw [k2.cell]; rfl
  have d1 : w2.cell? ⟨w.heap.size, 1, none⟩ = some (.slice none 0 0) := by rw [k2.cell]; rfl
  have d2 : w2.cell? ⟨w.heap.size, 2, none⟩ = some (.slice none 0 0) := by rw [k2.cell]; rfl
  have d3 : w2.cell? ⟨w.heap.size, 3, none⟩ = some (.slice none 0 0) := by rw [k2.cell]; rfl
  have d4 : w2.cell? ⟨w.heap.size, 4, none⟩ = some (.slice none 0 0) := by rw [k2.cell]; rfl
  have HK2 := hide k2
  have HB2 := hide (HB1.out.trans (hb2.mono HB1.out.size))
  clear hb2 k2 c0 c1 c2 c3
  go_wp2_with fail
  go_loopw [3, 4] (fun t3 tx W => t3 = .int .i64 0 ∧ tx = .int .i64 0 ∧ W = w2) (fun _ _ _ => 0)
  case atStart => exact ⟨rfl, rfl, rfl⟩
  case round =>
    obtain ⟨rfl, rfl, rfl⟩ := hrel
    go_wp2_with fail
    go_at_call 65
    refine (HE _).out.mono ?_
    rintro en w3 ⟨rfl, hb3⟩
    have k3 := HK2.out.below hb3 HK2.out.lt
    have e0 : w3.cell? ⟨w.heap.size, 0, none⟩ = some (.slice none 0 0) := by rw [k3.cell]; rfl
    have e3 : w3.cell? ⟨w.heap.size, 3, none⟩ = some (.slice none 0 0) := by rw [k3.cell]; rfl
    have HB3 := hide (HB2.out.trans (hb3.mono HB2.out.size))
    clear hb3 k3
    go_wp2_with fail
    go_loopw [5] (fun tx W => tx = .int .i64 0 ∧ W = w3) (fun _ _ => 0)
    case atStart => exact ⟨rfl, rfl⟩
    case round =>
      obtain ⟨rfl, rfl⟩ := hrel
      go_wp2_with fail
      go_ret
      exact ⟨rfl, HB3.out⟩
theorem run_append_nn {P : Program} (w : World) (t e : TypeId) (i : TypeInfo) (ht : P.underlying t = some (.slice e)) (hi : P.info? e = some i) : (Builtin.append_ #[t, t] t #[.slice none 0 0, .slice none 0 0]).run P w = .ok (.slice none 0 0) w := by
  simp [Builtin.append_, run_underlying ht, sizeOf, typeInfo, hi, Builtin.lenOf, Builtin.firstCells]
set_option linter.unusedVariables false in
set_option maxRecDepth 100000 in
set_option maxHeartbeats 4000000 in
theorem all0_i (w : World) : Calls Try.prog 31 #[noPlan] w fun en w' => ∃ g, en = .returned (.tuple #[.pointer (some ⟨g, 0, none⟩), .int .i64 0]) ∧ (∀ k, k < 6 → w'.cell? ⟨g, k, none⟩ = some (#[Value.slice none 0 0, .slice none 0 0, .slice none 0 0, .slice none 0 0, .int .i64 (-1), .slice none 0 0][k]!)) ∧ Below w.heap.size w w' := by
  have HC := fun (W : World) => hide (check0_i W)
  have HA := fun (W : World) (g : Nat) => hide (add0_i W g (-1))
  obtain ⟨i4, hi4, _, _, _⟩ := info_parts info4
  obtain ⟨i49, hi49, _, _, _⟩ := info_parts info49
  obtain ⟨i3, hi3, _, _, _⟩ := info_parts info3
  have ap23 := fun W => run_append_nn (P := Try.prog) W 23 4 i4 Try.underlying23 hi4
  have ap24 := fun W => run_append_nn (P := Try.prog) W 24 49 i49 Try.underlying24 hi49
  have ap25 := fun W => run_append_nn (P := Try.prog) W 25 3 i3 Try.underlying25 hi3
  clear hi4 hi49 hi3
  unfold noPlan at *
  have HB := hide ((Below.refl w.heap.size w).alloc (Nat.le_refl _) (.cells #[.slice none 0 0, .slice none 0 0, .slice none 0 0, .slice none 0 0, .slice none 0 0] 59))
  have HK := hide (Blk.new w 59 #[.slice none 0 0, .slice none 0 0, .slice none 0 0, .slice none 0 0, .slice none 0 0])
  go_enter Try.func31, Try.ntmps31
  go_wp2_with fail
  go_at_call 39
  refine (HC _).out.mono ?_
  rintro en w1 ⟨rfl, hb1⟩
  have k1 := HK.out.below hb1 HK.out.lt
  have c0 : w1.cell? ⟨w.heap.size, 0, none⟩ = some (.slice none 0 0) := by rw [k1.cell]; rfl
  have c1 : w1.cell? ⟨w.heap.size, 1, none⟩ = some (.slice none 0 0) := by rw [k1.cell]; rfl
  have c2 : w1.cell? ⟨w.heap.size, 2, none⟩ = some (.slice none 0 0) := by rw [k1.cell]; rfl
  have c3 : w1.cell? ⟨w.heap.size, 3, none⟩ = some (.slice none 0 0) := by rw [k1.cell]; rfl
  have c4 : w1.cell? ⟨w.heap.size, 4, none⟩ = some (.slice none 0 0) := by rw [k1.cell]; rfl
  have HK1 := hide k1
  have HB1 := hide (HB.out.trans (hb1.mono HB.out.size))
  have hlt1 := k1.lt
  clear hb1 k1
  go_wp2_with fail
  have pa0 : ∀ o, (w1.alloc o).cell? _ = _ := fun o => (World.cell?_alloc_lt w1 o _ (by exact hlt1)).trans c0
  have pa1 : ∀ o, (w1.alloc o).cell? _ = _ := fun o => (World.cell?_alloc_lt w1 o _ (by exact hlt1)).trans c1
  have pa2 : ∀ o, (w1.alloc o).cell? _ = _ := fun o => (World.cell?_alloc_lt w1 o _ (by exact hlt1)).trans c2
  have pa3 : ∀ o, (w1.alloc o).cell? _ = _ := fun o => (World.cell?_alloc_lt w1 o _ (by exact hlt1)).trans c3
  have pa4 : ∀ o, (w1.alloc o).cell? _ = _ := fun o => (World.cell?_alloc_lt w1 o _ (by exact hlt1)).trans c4
  go_region
  all_goals
    go_wp2_with fail
    go_region
    all_goals
      go_wp2_with fail
      go_region
      all_goals
        go_wp2_with fail
        go_loopw [6] (fun tx W => tx = .int .i64 0 ∧ W = (w1.alloc (.cells #[.slice none 0 0, .slice none 0 0, .slice none 0 0, .slice none 0 0, .int .i64 0, .slice none 0 0, .slice none 0 0, .slice none 0 0] 84)).drew.drew.drew) (fun _ _ => 0)
        case atStart => exact ⟨rfl, rfl⟩
        case round =>
          obtain ⟨rfl, rfl⟩ := hrel
          go_wp2_with fail
          go_at_call 40
          refine (HA _ _).out.mono ?_
          rintro en w5 ⟨rfl, rfl⟩
          go_wp2_with fail
          go_ret2
          refine ⟨w1.heap.size, rfl, fun k hk => ?_, (HB1.out.alloc HB1.out.size _).drew.drew.drew⟩
          have hcell := (Blk.new w1 84 #[.slice none 0 0, .slice none 0 0, .slice none 0 0, .slice none 0 0, .int .i64 (-1), .slice none 0 0, .slice none 0 0, .slice none 0 0]).cell k
          obtain rfl | rfl | rfl | rfl | rfl | rfl : k = 0 ∨ k = 1 ∨ k = 2 ∨ k = 3 ∨ k = 4 ∨ k = 5 := by omega
          all_goals exact hcell
set_option linter.unusedVariables false in
set_option maxRecDepth 100000 in
set_option maxHeartbeats 4000000 in
theorem make0_i (w : World) : Calls Try.prog 24 #[noPlan] w fun en w' => (∃ v, en = .returned (.tuple #[.agg v, .int .i64 0]) ∧ v = #[.slice none 0 0, .slice none 0 0, .slice none 0 0, .slice none 0 0, .int .i64 (-1), .slice none 0 0]) ∧ Below w.heap.size w w' := by
  have hres : Try.f24.results = #[.cell 2 28, .tmp 3] := by kernel_rfl
  have HRES := hide hres
  clear hres
  have HA := fun (W : World) => hide (all0_i W)
  unfold noPlan at *
  have hb0 : Below w.heap.size w ((w.alloc (.cells #[.slice none 0 0, .slice none 0 0, .slice none 0 0, .slice none 0 0, .slice none 0 0] 59)).alloc (.cells #[.slice none 0 0, .slice none 0 0, .slice none 0 0, .slice none 0 0, .int .i64 0, .slice none 0 0] 28)) := ((Below.refl _ w).alloc (Nat.le_refl _) _).alloc (by simp) _
  have HK : Hid (Blk ((w.alloc (.cells #[.slice none 0 0, .slice none 0 0, .slice none 0 0, .slice none 0 0, .slice none 0 0] 59)).alloc (.cells #[.slice none 0 0, .slice none 0 0, .slice none 0 0, .slice none 0 0, .int .i64 0, .slice none 0 0] 28)) (w.heap.size + 1) 28 #[.slice none 0 0, .slice none 0 0, .slice none 0 0, .slice none 0 0, .int .i64 0, .slice none 0 0]) := hide (by
    have := Blk.new (w.alloc (.cells #[.slice none 0 0, .slice none 0 0, .slice none 0 0, .slice none 0 0, .slice none 0 0] 59)) 28 #[.slice none 0 0, .slice none 0 0, .slice none 0 0, .slice none 0 0, .int .i64 0, .slice none 0 0]
    simpa using this)
  have HB := hide hb0
  clear hb0
  go_enter Try.func24, Try.ntmps24
  go_wp2_with fail
  go_at_call 31
  refine (HA _).out.mono ?_
  rintro en w1 ⟨g, rfl, hc, hb1⟩
  have k1 := HK.out.below hb1 HK.out.lt
  have d0 : w1.cell? ⟨g, 0, none⟩ = some (.slice none 0 0) := hc 0 (by decide)
  have d1 : w1.cell? ⟨g, 1, none⟩ = some (.slice none 0 0) := hc 1 (by decide)
  have d2 : w1.cell? ⟨g, 2, none⟩ = some (.slice none 0 0) := hc 2 (by decide)
  have d3 : w1.cell? ⟨g, 3, none⟩ = some (.slice none 0 0) := hc 3 (by decide)
  have d4 : w1.cell? ⟨g, 4, none⟩ = some (.int .i64 (-1)) := hc 4 (by decide)
  have d5 : w1.cell? ⟨g, 5, none⟩ = some (.slice none 0 0) := hc 5 (by decide)
  have c0 : w1.cell? ⟨w.heap.size + 1, 0, none⟩ = some (.slice none 0 0) := by rw [k1.cell]; rfl
  have c1 : w1.cell? ⟨w.heap.size + 1, 1, none⟩ = some (.slice none 0 0) := by rw [k1.cell]; rfl
  have c2 : w1.cell? ⟨w.heap.size + 1, 2, none⟩ = some (.slice none 0 0) := by rw [k1.cell]; rfl
  have c3 : w1.cell? ⟨w.heap.size + 1, 3, none⟩ = some (.slice none 0 0) := by rw [k1.cell]; rfl
  have c4 : w1.cell? ⟨w.heap.size + 1, 4, none⟩ = some (.int .i64 0) := by rw [k1.cell]; rfl
  have c5 : w1.cell? ⟨w.heap.size + 1, 5, none⟩ = some (.slice none 0 0) := by rw [k1.cell]; rfl
  have f0 := k1.frozen 0
  have f1 := k1.frozen 1
  have f2 := k1.frozen 2
  have f3 := k1.frozen 3
  have f4 := k1.frozen 4
  have f5 := k1.frozen 5
  have HK1 := hide k1
  have HB1 := hide (HB.out.trans (hb1.mono HB.out.size))
  clear hc k1 hb1
  go_wp2_with fail
  have hy := (((((HK1.out.set_ 0 (.slice none 0 0)).set_ 1 (.slice none 0 0)).set_ 2 (.slice none 0 0)).set_ 3 (.slice none 0 0)).set_ 4 (.int .i64 (-1))).set_ 5 (.slice none 0 0)
  have hb := (((((HB1.out.setCell (p := ⟨w.heap.size + 1, 0, none⟩) (by show w.heap.size ≤ w.heap.size + 1; omega) (.slice none 0 0)).setCell (p := ⟨w.heap.size + 1, 1, none⟩) (by show w.heap.size ≤ w.heap.size + 1; omega) (.slice none 0 0)).setCell (p := ⟨w.heap.size + 1, 2, none⟩) (by show w.heap.size ≤ w.heap.size + 1; omega) (.slice none 0 0)).setCell (p := ⟨w.heap.size + 1, 3, none⟩) (by show w.heap.size ≤ w.heap.size + 1; omega) (.slice none 0 0)).setCell (p := ⟨w.heap.size + 1, 4, none⟩) (by show w.heap.size ≤ w.heap.size + 1; omega) (.int .i64 (-1))).setCell (p := ⟨w.heap.size + 1, 5, none⟩) (by show w.heap.size ≤ w.heap.size + 1; omega) (.slice none 0 0)
  have HY := hide hy
  have HBY := hide hb
  clear hy hb
  generalize ((((((w1.setCell ⟨w.heap.size + 1, 0, none⟩ (.slice none 0 0)).setCell ⟨w.heap.size + 1, 1, none⟩ (.slice none 0 0)).setCell ⟨w.heap.size + 1, 2, none⟩ (.slice none 0 0)).setCell ⟨w.heap.size + 1, 3, none⟩ (.slice none 0 0)).setCell ⟨w.heap.size + 1, 4, none⟩ (.int .i64 (-1))).setCell ⟨w.heap.size + 1, 5, none⟩ (.slice none 0 0)) = Wy at *
  have z0 : Wy.cell? ⟨w.heap.size + 1, 0, none⟩ = some (.slice none 0 0) := by rw [HY.out.cell]; rfl
  have z1 : Wy.cell? ⟨w.heap.size + 1, 1, none⟩ = some (.slice none 0 0) := by rw [HY.out.cell]; rfl
  have z2 : Wy.cell? ⟨w.heap.size + 1, 2, none⟩ = some (.slice none 0 0) := by rw [HY.out.cell]; rfl
  have z3 : Wy.cell? ⟨w.heap.size + 1, 3, none⟩ = some (.slice none 0 0) := by rw [HY.out.cell]; rfl
  have z4 : Wy.cell? ⟨w.heap.size + 1, 4, none⟩ = some (.int .i64 (-1)) := by rw [HY.out.cell]; rfl
  have z5 : Wy.cell? ⟨w.heap.size + 1, 5, none⟩ = some (.slice none 0 0) := by rw [HY.out.cell]; rfl
  refine bodyPost_ret (v := .tuple #[.agg #[.slice none 0 0, .slice none 0 0, .slice none 0 0, .slice none 0 0, .int .i64 (-1), .slice none 0 0], .int .i64 0]) ?_ rfl ?_
  · simp only [results, HRES.out]
    go_simp
  · exact ⟨⟨_, rfl, rfl⟩, HBY.out⟩
end Go.Proofs.Ytjflllfkgbhemaa

/- Rows of rows that the law VerifyOwn keeps. Conditions: none. -/
namespace Go.Proofs.Ytjflllfkgbhemaa
open Go.RowKit
/-- numbers in memory that the call itself made, which may be written -/
def Kp (B : Nat) (W : World) (v : Value) (l : List Int) : Prop := ∃ oa ca, v = .slice oa l.length ca ∧ l.length ≤ ca ∧ ca ≤ maxLen ∧ l.length ≤ 262144 ∧ (oa = none → ca = 0) ∧ ∀ ad, oa = some ad → ∃ g cs, ad = ⟨g, 0, none⟩ ∧ B ≤ g ∧ Blk W g 3 cs ∧ ca ≤ cs.size ∧ ∀ (i : Nat) (x : Int), l[i]? = some x → cs[i]? = some (.int .i64 x)
theorem Kp.blk {B : Nat} {W : World} {v : Value} {l : List Int} (h : Kp B W v l) {g : Nat} (hg : v.ownBlock = some g) : B ≤ g ∧ ∃ cs, Blk W g 3 cs := by
  obtain ⟨oa, ca, rfl, _, _, _, _, hx⟩ := h
  cases oa with
  | none => simp [Value.ownBlock] at hg
  | some ad =>
    obtain ⟨g', cs, rfl, hb, hk, _⟩ := hx ad rfl
    have : g' = g := by simpa [Value.ownBlock] using hg
    subst this
    exact ⟨hb, cs, hk⟩
theorem Kp.only {B : Nat} {S : Nat → Prop} {W W' : World} {v : Value} {l : List Int} (h : Kp B W v l) (ho : Only S W W') (hS : ∀ g, v.ownBlock = some g → ¬ S g) : Kp B W' v l := by
  obtain ⟨oa, ca, rfl, h1, h2, h3, h4, hx⟩ := h
  refine ⟨oa, ca, rfl, h1, h2, h3, h4, fun ad e => ?_⟩
  obtain ⟨g, cs, rfl, hb, hk, hz⟩ := hx ad e
  exact ⟨g, cs, rfl, hb, hk.only ho (hS g (by rw [e]; simp [Value.ownBlock])), hz⟩
theorem Kp.below {B : Nat} {W W' : World} {v : Value} {l : List Int} (h : Kp B W v l) (hb : Below W.heap.size W W') : Kp B W' v l := h.only (S := fun _ => False) (Only.of_new hb) (fun _ _ h => h)
theorem Kp.src {B : Nat} {W : World} {v : Value} {l : List Int} (h : Kp B W v l) : ∃ oa ca, v = .slice oa l.length ca ∧ Src W oa l.length (ints l) := by
  obtain ⟨oa, ca, rfl, h1, _, _, h4, hx⟩ := h
  refine ⟨oa, ca, rfl, fun h0 => ?_⟩
  cases oa with
  | none => have := h4 rfl; omega
  | some ad =>
    obtain ⟨g, cs, rfl, hb, hk, _, hz⟩ := hx ad rfl
    refine ⟨_, rfl, hk.lt, fun j v hj => ?_⟩
    have hadd : (⟨g, 0, none⟩ : Addr).add j = ⟨g, j, none⟩ := by unfold Addr.add; split <;> simp_all
    rw [hadd, hk.cell]
    simp only [ints, List.getElem?_map, Option.map_eq_some_iff] at hj
    obtain ⟨x, hx1, rfl⟩ := hj
    exact hz j x hx1
theorem kp_of_own {B n : Nat} {W : World} {v : Value} {l : List Int} (h : W.ownsRow B 3 1 v n (ints l)) (hn : n ≤ 262144) : Kp B W v l := by
  have hl : l.length = n := by have := h.1; simpa [ints] using this
  rcases h.2 with ⟨rfl, h0⟩ | ⟨g, cap, cur, rfl, hb, hg, h1, h2, h3, h4⟩
  · have : l = [] := List.length_eq_zero_iff.1 (by omega)
    subst this
    exact ⟨none, 0, rfl, Nat.le_refl _, Nat.zero_le _, Nat.zero_le _, fun _ => rfl, fun ad e => by cases e⟩
  · subst hl
    refine ⟨_, cap, rfl, h1, h2, hn, (fun e => by cases e), fun ad e => ?_⟩
    injection e with e
    subst e
    refine ⟨g, cur, rfl, hb, hg, by omega, fun i x hx => ?_⟩
    have hi := (List.getElem?_eq_some_iff.1 hx).1
    have h5 : (cur.toList.take (l.length * 1))[i]? = (ints l)[i]? := by rw [h4]
    rw [List.getElem?_take, if_pos (by omega)] at h5
    simp only [ints, List.getElem?_map, hx, Option.map_some] at h5
    simpa using h5
theorem kp_of_costs {B : Nat} {W : World} {P : Prg} {v : Value} {m : Int} (h : CostsAre B W (.agg #[v, .int .i64 m]) P) (he : (runV P).1 = 0) (hn : P.os.length ≤ 262144) : Kp B W v (costsV (fuelK P P.cd.length) P.os) := by
  obtain ⟨g, cs, e, hg, hk, hx⟩ := h.2 he
  injection e with e
  simp only [Array.mk.injEq, List.cons.injEq, and_true] at e
  obtain ⟨rfl, _⟩ := e
  have hl : (costsV (fuelK P P.cd.length) P.os).length = P.os.length := by simp [costsV]
  have hsz : P.os.length ≤ cs.size := by
    rcases Nat.eq_zero_or_pos P.os.length with h0 | h0
    · omega
    · have hlt : P.os.length - 1 < (costsV (fuelK P P.cd.length) P.os).length := by rw [hl]; omega
      have := hx (P.os.length - 1) _ (List.getElem?_eq_getElem hlt)
      have := (Array.getElem?_eq_some_iff.1 this).1
      omega
  refine ⟨_, P.os.length, by rw [hl], by rw [hl]; exact Nat.le_refl _, by unfold maxLen; omega, by rw [hl]; exact hn, (fun e => by cases e), fun ad e => ?_⟩
  injection e with e
  subst e
  exact ⟨g, cs, rfl, hg, hk, hsz, hx⟩
theorem kp_of_costsR {B : Nat} {W : World} {P : Prg} {v : Value} {m : Int} (h : CostsR B W (.agg #[v, .int .i64 m]) P) (he : (runV P).1 = 0) (hn : P.os.length ≤ 262144) : Kp B W v (costsV (fuelK P P.cd.length) P.os) := by
  obtain ⟨v1, e, hown⟩ := h.2 he
  injection e with e
  simp only [Array.mk.injEq, List.cons.injEq, and_true] at e
  rw [e.1]
  exact kp_of_own hown hn
theorem kp_of_hts {B : Nat} {W : World} {P : Prg} {v : Value} (h : HtsAre B W v P) (he : (runV P).1 = 0) (hn : P.cd.length ≤ 262144) : Kp B W v (htsV (runV P).2.2) := kp_of_own (h.2 he).1 hn
/-- the rows of rows -/
structure Own (B : Nat) (W : World) (tk tw : Value) (vs : List Value) (kl : List (List Int)) (us : List Value) (wl : List (List Int)) : Prop where
  lv : vs.length = kl.length
  lu : us.length = wl.length
  k : W.ownsRow B 25 1 tk kl.length vs
  w : W.ownsRow B 25 1 tw wl.length us
  kp : ∀ (j : Nat) (v : Value) (l : List Int), vs[j]? = some v → kl[j]? = some l → Kp B W v l
  wt : ∀ (j : Nat) (u : Value) (l : List Int), us[j]? = some u → wl[j]? = some l → Kp B W u l
  s1 : ∀ (i j : Nat) (v v' : Value), i < j → vs[i]? = some v → vs[j]? = some v' → ∀ g, v.ownBlock = some g → v'.ownBlock ≠ some g
  s2 : ∀ v ∈ vs, ∀ u ∈ us, ∀ g, v.ownBlock = some g → u.ownBlock ≠ some g
  s3 : ∀ g, tk.ownBlock = some g → tw.ownBlock ≠ some g
theorem own_blk25 {B n : Nat} {W : World} {v : Value} {xs : List Value} (h : W.ownsRow B 25 1 v n xs) {g : Nat} (hg : v.ownBlock = some g) : ∃ cs, Blk W g 25 cs := by
  rcases h.2 with ⟨rfl, _⟩ | ⟨g', cap, cur, rfl, _, hh, _⟩
  · simp [Value.ownBlock] at hg
  · have : g' = g := by simpa [Value.ownBlock] using hg
    subst this
    exact ⟨cur, hh⟩
section
variable {B : Nat} {W W' : World} {tk tw tk' tw' : Value} {vs us : List Value} {kl wl : List (List Int)}
theorem Own.kpm (h : Own B W tk tw vs kl us wl) {v : Value} (hv : v ∈ vs) : ∃ l, Kp B W v l := by
  obtain ⟨j, hj, rfl⟩ := List.getElem_of_mem hv
  exact ⟨kl[j]'(by rw [← h.lv]; exact hj), h.kp j _ _ (List.getElem?_eq_getElem hj) (List.getElem?_eq_getElem (by rw [← h.lv]; exact hj))⟩
theorem Own.wtm (h : Own B W tk tw vs kl us wl) {u : Value} (hu : u ∈ us) : ∃ l, Kp B W u l := by
  obtain ⟨j, hj, rfl⟩ := List.getElem_of_mem hu
  exact ⟨wl[j]'(by rw [← h.lu]; exact hj), h.wt j _ _ (List.getElem?_eq_getElem hj) (List.getElem?_eq_getElem (by rw [← h.lu]; exact hj))⟩
theorem Own.below (h : Own B W tk tw vs kl us wl) (hb : Below W.heap.size W W') : Own B W' tk tw vs kl us wl :=
  ⟨h.lv, h.lu, own_only (S := fun _ => False) h.k (Only.of_new hb) (fun _ _ h => h), own_only (S := fun _ => False) h.w (Only.of_new hb) (fun _ _ h => h), fun j v l h1 h2 => (h.kp j v l h1 h2).below hb, fun j u l h1 h2 => (h.wt j u l h1 h2).below hb, h.s1, h.s2, h.s3⟩
theorem own_nil (B : Nat) (W : World) : Own B W (.slice none 0 0) (.slice none 0 0) [] [] [] [] :=
  ⟨rfl, rfl, World.ownsRow_nil _ _ _ _, World.ownsRow_nil _ _ _ _, fun j v l h => by simp at h, fun j v l h => by simp at h, fun i j v v' _ h => by simp at h, fun v h => by simp at h, fun g h => by simp [Value.ownBlock] at h⟩
/-- two more are kept -/
theorem Own.addK (h : Own B W tk tw vs kl us wl) {a b : Value} {la lb : List Int} (hown : W'.ownsRow B 25 1 tk' (kl.length + 2) (vs ++ [a, b])) (hg : W.grownBy W' tk.ownBlock) (hblk : tk'.ownBlock = tk.ownBlock ∨ tk'.ownBlock = some W.heap.size)
    (ka : Kp B W a la) (kb : Kp B W b lb) (sab : ∀ g, a.ownBlock = some g → b.ownBlock ≠ some g) (sva : ∀ v ∈ vs, ∀ g, v.ownBlock = some g → a.ownBlock ≠ some g) (svb : ∀ v ∈ vs, ∀ g, v.ownBlock = some g → b.ownBlock ≠ some g)
    (sau : ∀ u ∈ us, ∀ g, a.ownBlock = some g → u.ownBlock ≠ some g) (sbu : ∀ u ∈ us, ∀ g, b.ownBlock = some g → u.ownBlock ≠ some g) : Own B W' tk' tw (vs ++ [a, b]) (kl ++ [la, lb]) us wl := by
  have ho : Only (fun k => tk.ownBlock = some k) W W' := ⟨hg.os, hg.tape, hg.output, hg.size, fun k hk hS => hg.block k hk (fun e => hS e.symm)⟩
  have hkp : ∀ {v : Value} {l : List Int}, Kp B W v l → Kp B W' v l := fun {v l} hv => hv.only ho (fun g hgv hS => by
    obtain ⟨cs, hc⟩ := own_blk25 h.k hS
    obtain ⟨_, cs', hc'⟩ := hv.blk hgv
    exact hc.ne_ hc' (by decide) rfl)
  refine ⟨by simp [h.lv], h.lu, by simpa using hown, own_only h.w ho (fun k hk hS => h.s3 k hS hk), fun j v l h1 h2 => ?_, fun j u l h1 h2 => hkp (h.wt j u l h1 h2), fun i j v v' hij h1 h2 => ?_, fun v hv u hu => ?_, fun g hg1 hg2 => ?_⟩
  · rcases Nat.lt_or_ge j vs.length with hj | hj
    · rw [List.getElem?_append_left hj] at h1
      rw [List.getElem?_append_left (by rw [← h.lv]; exact hj)] at h2
      exact hkp (h.kp j v l h1 h2)
    · rw [List.getElem?_append_right hj] at h1
      rw [List.getElem?_append_right (by rw [← h.lv]; exact hj), ← h.lv] at h2
      rcases hjj : j - vs.length with _ | _ | n
      · rw [hjj] at h1 h2
        simp at h1 h2
        subst h1 h2
        exact hkp ka
      · rw [hjj] at h1 h2
        simp at h1 h2
        subst h1 h2
        exact hkp kb
      · rw [hjj] at h1
        simp at h1
  · have hnew : ∀ m (x : Value), (vs ++ [a, b])[m]? = some x → (m < vs.length ∧ vs[m]? = some x) ∨ (m = vs.length ∧ x = a) ∨ (m = vs.length + 1 ∧ x = b) := fun m x hm => by
      rcases Nat.lt_or_ge m vs.length with hj | hj
      · rw [List.getElem?_append_left hj] at hm
        exact .inl ⟨hj, hm⟩
      · rw [List.getElem?_append_right hj] at hm
        rcases hjj : m - vs.length with _ | _ | n
        · rw [hjj] at hm
          simp at hm
          exact .inr (.inl ⟨by omega, hm.symm⟩)
        · rw [hjj] at hm
          simp at hm
          exact .inr (.inr ⟨by omega, hm.symm⟩)
        · rw [hjj] at hm
          simp at hm
    rcases hnew i v h1 with ⟨p1, p2⟩ | ⟨p1, rfl⟩ | ⟨p1, rfl⟩ <;> rcases hnew j v' h2 with ⟨q1, q2⟩ | ⟨q1, rfl⟩ | ⟨q1, rfl⟩
    · exact h.s1 i j v v' hij p2 q2
    · exact sva v (List.mem_of_getElem? p2)
    · exact svb v (List.mem_of_getElem? p2)
    · omega
    · omega
    · exact sab
    · omega
    · omega
    · omega
  · simp only [List.mem_append, List.mem_cons, List.not_mem_nil, or_false] at hv
    rcases hv with hv | rfl | rfl
    · exact h.s2 v hv u hu
    · exact sau u hu
    · exact sbu u hu
  · rcases hblk with e | e
    · exact h.s3 g (e ▸ hg1) hg2
    · rw [e] at hg1
      injection hg1 with hg1
      have := (h.w.lt g hg2).2
      omega
/-- two more are wanted -/
theorem Own.addW (h : Own B W tk tw vs kl us wl) {a b : Value} {la lb : List Int} (hown : W'.ownsRow B 25 1 tw' (wl.length + 2) (us ++ [a, b])) (hg : W.grownBy W' tw.ownBlock) (hblk : tw'.ownBlock = tw.ownBlock ∨ tw'.ownBlock = some W.heap.size)
    (ka : Kp B W a la) (kb : Kp B W b lb) (sva : ∀ v ∈ vs, ∀ g, v.ownBlock = some g → a.ownBlock ≠ some g) (svb : ∀ v ∈ vs, ∀ g, v.ownBlock = some g → b.ownBlock ≠ some g) : Own B W' tk tw' vs kl (us ++ [a, b]) (wl ++ [la, lb]) := by
  have ho : Only (fun k => tw.ownBlock = some k) W W' := ⟨hg.os, hg.tape, hg.output, hg.size, fun k hk hS => hg.block k hk (fun e => hS e.symm)⟩
  have hkp : ∀ {v : Value} {l : List Int}, Kp B W v l → Kp B W' v l := fun {v l} hv => hv.only ho (fun g hgv hS => by
    obtain ⟨cs, hc⟩ := own_blk25 h.w hS
    obtain ⟨_, cs', hc'⟩ := hv.blk hgv
    exact hc.ne_ hc' (by decide) rfl)
  refine ⟨h.lv, by simp [h.lu], own_only h.k ho (fun k hk hS => h.s3 k hk hS), by simpa using hown, fun j v l h1 h2 => hkp (h.kp j v l h1 h2), fun j u l h1 h2 => ?_, h.s1, fun v hv u hu => ?_, fun g hg1 hg2 => ?_⟩
  · rcases Nat.lt_or_ge j us.length with hj | hj
    · rw [List.getElem?_append_left hj] at h1
      rw [List.getElem?_append_left (by rw [← h.lu]; exact hj)] at h2
      exact hkp (h.wt j u l h1 h2)
    · rw [List.getElem?_append_right hj] at h1
      rw [List.getElem?_append_right (by rw [← h.lu]; exact hj), ← h.lu] at h2
      rcases hjj : j - us.length with _ | _ | n
      · rw [hjj] at h1 h2
        simp at h1 h2
        subst h1 h2
        exact hkp ka
      · rw [hjj] at h1 h2
        simp at h1 h2
        subst h1 h2
        exact hkp kb
      · rw [hjj] at h1
        simp at h1
  · simp only [List.mem_append, List.mem_cons, List.not_mem_nil, or_false] at hu
    rcases hu with hu | rfl | rfl
    · exact h.s2 v hv u hu
    · exact sva v hv
    · exact svb v hv
  · rcases hblk with e | e
    · exact h.s3 g hg1 (e ▸ hg2)
    · rw [e] at hg2
      injection hg2 with hg2
      have := (h.k.lt g hg1).2
      omega
/-- a kept one is written over -/
theorem Own.setK (h : Own B W tk tw vs kl us wl) {i : Nat} {v : Value} {l l' : List Int} (hv : vs[i]? = some v) (hl : kl[i]? = some l) (hk : Kp B W' v l') (ho : Only (fun k => v.ownBlock = some k) W W') : Own B W' tk tw vs (kl.set i l') us wl := by
  have h25 : ∀ {t : Value} {n : Nat} {xs : List Value}, W.ownsRow B 25 1 t n xs → W'.ownsRow B 25 1 t n xs := fun {t n xs} ht => own_only ht ho (fun k hk2 hS => by
    obtain ⟨cs, hc⟩ := own_blk25 ht hk2
    obtain ⟨_, cs', hc'⟩ := (h.kp i v l hv hl).blk hS
    exact hc.ne_ hc' (by decide) rfl)
  refine ⟨by rw [List.length_set]; exact h.lv, h.lu, by rw [List.length_set]; exact h25 h.k, h25 h.w, fun j u m h1 h2 => ?_, fun j u m h1 h2 => (h.wt j u m h1 h2).only ho (fun g hg hS => h.s2 v (List.mem_of_getElem? hv) u (List.mem_of_getElem? h1) g hS hg), h.s1, h.s2, h.s3⟩
  by_cases hij : i = j
  · subst hij
    rw [List.getElem?_set_self (by have := (List.getElem?_eq_some_iff.1 hl).1; exact this)] at h2
    injection h2 with h2
    subst h2
    rw [hv] at h1
    injection h1 with h1
    subst h1
    exact hk
  · rw [List.getElem?_set_ne hij] at h2
    refine (h.kp j u m h1 h2).only ho (fun g hg hS => ?_)
    rcases Nat.lt_or_gt_of_ne hij with e | e
    · exact h.s1 i j v u e hv h1 g hS hg
    · exact h.s1 j i u v e h1 hv g hg hS
end
end Go.Proofs.Ytjflllfkgbhemaa

/- Programs that were handed in, as a list. Conditions: none. -/
namespace Go.Proofs.Ytjflllfkgbhemaa.opened
open Go.ChangeShapes Go.WideShapes Go.ChangeAt Go.RowKit Go.Deep
set_option linter.unusedVariables false
/-- programs one behind the other -/
def ProgsAt (w : World) (oa : Option Addr) (l : List (PV × Prg)) : Prop := 0 < l.length → ∃ ad, oa = some ad ∧ ad.block < w.heap.size ∧ ∀ (i : Nat) (q : PV) (P : Prg), l[i]? = some (q, P) →
  w.cell? (ad.add (i * 6)) = some (.slice q.ga q.gl q.gc) ∧ w.cell? (ad.add (i * 6 + 1)) = some (.slice q.va q.vl q.vc) ∧ w.cell? (ad.add (i * 6 + 2)) = some (.slice q.ta q.tl q.tc) ∧ w.cell? (ad.add (i * 6 + 3)) = some (.slice q.oa q.ol q.oc) ∧ w.cell? (ad.add (i * 6 + 4)) = some (.int .i64 q.miss) ∧ w.cell? (ad.add (i * 6 + 5)) = some (.slice q.ca q.cl q.cc)
section
variable {H : Type} {enc : TypeId × Value → H} {w : World}
set_option maxRecDepth 100000 in
theorem src_progs {fuel : Nat} {c : Value} {x : DataW H × List MemPlace} (h : DataW.trod enc Try.prog w 0 (fun _ => true) true fuel 52 [c] = some x) :
    ∃ oa cap, ∃ l : List (PV × Prg), c = .slice oa l.length cap ∧ ProgsAt w oa l ∧ (∀ y ∈ l, AMem w y.1 y.2) ∧ l.length ≤ cap ∧ cap ≤ maxLen := by
  rcases open_slice_fields Try.underlying52 Try.underlying28 (by kernel_rfl) (by kernel_rfl) h with ⟨h0, _⟩ | ⟨a, len, cap, m, D, Pl, h0, hb, hl, hm, hmm, _, hx⟩
  · injection h0 with h0
    exact ⟨none, 0, [], h0, fun h => absurd h (by simp), fun y hy => by simp at hy, Nat.le_refl _, Nat.zero_le _⟩
  · injection h0 with h0
    simp only [if_true] at hmm
    have : Inhabited (PV × Prg) := ⟨(⟨none, none, none, none, none, 0, 0, 0, 0, 0, 0, 0, 0, 0, 0, 0⟩, ⟨[], [], [], [], 0, []⟩)⟩
    obtain ⟨U, hU⟩ := choose_lt (α := PV × Prg) (p := fun i u => (w.cell? (a.add (i * 6)) = some (.slice u.1.ga u.1.gl u.1.gc) ∧ w.cell? (a.add (i * 6 + 1)) = some (.slice u.1.va u.1.vl u.1.vc) ∧ w.cell? (a.add (i * 6 + 2)) = some (.slice u.1.ta u.1.tl u.1.tc) ∧ w.cell? (a.add (i * 6 + 3)) = some (.slice u.1.oa u.1.ol u.1.oc) ∧ w.cell? (a.add (i * 6 + 4)) = some (.int .i64 u.1.miss) ∧ w.cell? (a.add (i * 6 + 5)) = some (.slice u.1.ca u.1.cl u.1.cc)) ∧ AMem w u.1 u.2) (n := len) (fun i hi => by
      obtain ⟨ys, k, _, _, _, hf⟩ := hx i (by omega)
      obtain ⟨v0, y0, c0, _, t0⟩ := hf 0 _ rfl
      obtain ⟨v1, y1, c1, _, t1⟩ := hf 1 _ rfl
      obtain ⟨v2, y2, c2, _, t2⟩ := hf 2 _ rfl
      obtain ⟨v3, y3, c3, _, t3⟩ := hf 3 _ rfl
      obtain ⟨v4, y4, c4, _, t4⟩ := hf 4 _ rfl
      obtain ⟨v5, y5, c5, _, t5⟩ := hf 5 _ rfl
      obtain ⟨ga, gc, gl, rfl, sg, g1, g2⟩ := src_bools t0
      obtain ⟨va, vc, vl, rfl, sv, v1, v2⟩ := src_vars t1
      obtain ⟨ta, tc, tl, rfl, st, t1, t2⟩ := src_ints t2
      obtain ⟨oa, oc, ol, rfl, so, o1, o2⟩ := src_ints t3
      obtain ⟨mi, em, _⟩ := DataW.trod_int Try.underlying3 t4
      injection em with em
      subst em
      obtain ⟨ca, cc, cl, rfl, sc, d1, d2⟩ := src_code t5
      exact ⟨(⟨ga, va, ta, oa, ca, gl.length, gc, vl.length, vc, tl.length, tc, ol.length, oc, cl.length, cc, mi⟩, ⟨gl, vl, tl, ol, mi, cl⟩), ⟨c0, c1, c2, c3, c4, c5⟩, ⟨rfl, rfl, rfl, rfl, rfl, rfl, sg, sv, st, so, sc, ⟨Nat.le_trans g1 g2, Nat.le_trans v1 v2, Nat.le_trans t1 t2, Nat.le_trans o1 o2, Nat.le_trans d1 d2⟩⟩⟩)
    refine ⟨some a, cap, (List.range len).map U, by rw [h0]; simp, fun hp => ?_, fun y hy => ?_, by simpa using hl, hm⟩
    · have hp : 0 < len := by simpa using hp
      refine ⟨a, rfl, ?_, fun i q P hi => ?_⟩
      · have := lt_of_cell (hU 0 hp).1.1
        rwa [add_block] at this
      · have hil : i < len := by have := (List.getElem?_eq_some_iff.1 hi).1; simpa using this
        have e : U i = (q, P) := by simpa [hil] using hi
        have := (hU i hil).1
        rw [e] at this
        exact this
    · simp only [List.mem_map, List.mem_range] at hy
      obtain ⟨i, hi, rfl⟩ := hy
      exact (hU i hi).2
end
set_option maxRecDepth 100000 in
theorem open_progs {H : Type} {enc : TypeId × Value → H} {W : World} {r : Reach} {b0 : Nat} {v : Value} {d : DataW H} {p : List MemPlace} (hv : Value.okWide Try.prog W r b0 52 v)
    (h : DataW.Trod enc Try.prog W 0 (fun _ => true) true 52 v d p) : ∃ oa cap, ∃ l : List (PV × Prg), v = .slice oa l.length cap ∧ ProgsAt W oa l ∧ (∀ y ∈ l, AMem W y.1 y.2) ∧ l.length ≤ maxLen := by
  obtain ⟨fuel, hf⟩ := h
  obtain ⟨oa, len, cap, rfl⟩ := okWide_slice Try.underlying52 hv
  obtain ⟨oa', cap', l, e, hs, ha, h1, h2⟩ := src_progs (c := .slice oa len cap) hf
  exact ⟨oa', cap', l, e, hs, ha, Nat.le_trans h1 h2⟩
end Go.Proofs.Ytjflllfkgbhemaa.opened

/- What the walk of VerifyOwn keeps through a round. Conditions: none. -/
namespace Go.Proofs.Ytjflllfkgbhemaa
open Go.RowKit Go.Proofs.Ytjflllfkgbhemaa.opened
theorem check_of_run {P : Prg} (h : (runV P).1 = 0) : P.os.length ≤ 262144 ∧ P.cd.length ≤ 262144 := by
  obtain ⟨h0, _, _⟩ := look_ok (look_of_run h)
  obtain ⟨a, b, _⟩ := check_len h0
  exact ⟨by omega, b⟩
theorem sep_new {B : Nat} {W : World} {tk tw : Value} {vs us : List Value} {kl wl : List (List Int)} (h : Own B W tk tw vs kl us wl) {n : Nat} {x : Value} (hx : ∀ g, x.ownBlock = some g → n ≤ g) (hn : W.heap.size ≤ n) : (∀ v ∈ vs, ∀ g, v.ownBlock = some g → x.ownBlock ≠ some g) ∧ (∀ u ∈ us, ∀ g, x.ownBlock = some g → u.ownBlock ≠ some g) := by
  refine ⟨fun v hv g hg hxg => ?_, fun u hu g hxg hg => ?_⟩
  · obtain ⟨l, hk⟩ := h.kpm hv
    obtain ⟨_, cs, hc⟩ := hk.blk hg
    have := hx g hxg
    have := hc.lt
    omega
  · obtain ⟨l, hk⟩ := h.wtm hu
    obtain ⟨_, cs, hc⟩ := hk.blk hg
    have := hx g hxg
    have := hc.lt
    omega
theorem Kp.base {B B' : Nat} {W : World} {v : Value} {l : List Int} (h : Kp B W v l) (hB : B' ≤ B) : Kp B' W v l := by
  obtain ⟨oa, ca, rfl, h1, h2, h3, h4, hx⟩ := h
  refine ⟨oa, ca, rfl, h1, h2, h3, h4, fun ad e => ?_⟩
  obtain ⟨g, cs, e2, hb, hk, hz⟩ := hx ad e
  exact ⟨g, cs, e2, by omega, hk, hz⟩
def costL (P : Prg) : List Int := costsV (fuelK P P.cd.length) P.os
def hgtL (P : Prg) : List Int := htsV (runV P).2.2
theorem info25 : (Try.prog.info? 25).map (fun i => (i.zero, i.size, i.bytes)) = some (some (.slice none 0 0), 1, 24) := by kernel_rfl
theorem two_cells (w : World) (x y : Value) : ∀ j u, [x, y][j]? = some u → (w.alloc (.cells #[x, y] 25)).cell? ((⟨w.heap.size, 0, none⟩ : Addr).add j) = some u := by
  intro j u hj
  have hadd : (⟨w.heap.size, 0, none⟩ : Addr).add j = ⟨w.heap.size, j, none⟩ := by unfold Addr.add; split <;> simp_all
  rw [hadd, (Blk.new w 25 #[x, y]).cell]
  simpa using hj
theorem lends_i (w W : World) (q : PV) (P : Prg) (ham : AMem w q P) (hb : Below w.heap.size w W) (hf : farV P = false) : Calls Try.prog 12 #[q.val] W fun en w' => ∃ gg gv gt go gc, en = .returned (lentPV gg gv gt go gc P).val ∧ (PMem w' (lentPV gg gv gt go gc P) P ∧ Mv w' (lentPV gg gv gt go gc P).oa (lentPV gg gv gt go gc P).oc P.os) ∧ Below W.heap.size W w' := by
  have hl : farN P := by
    unfold farV at hf
    unfold farN
    simp at hf
    omega
  refine (lendProgram_i W q P (ham.below hb) hl).mono ?_
  rintro en w' ⟨gg, gv, gt, go, gc, e, hl', hb'⟩
  unfold farN at hl
  have hlm : P.gh.length ≤ maxLen ∧ P.vs.length ≤ maxLen ∧ P.ts.length ≤ maxLen ∧ P.os.length ≤ maxLen ∧ P.cd.length ≤ maxLen := by unfold maxLen; omega
  exact ⟨gg, gv, gt, go, gc, e, ⟨hl'.mem hlm, hl'.mv (by unfold maxLen; omega)⟩, hb'⟩
/-- what stands through the inner rounds -/
structure Inn (w : World) (B2 n3 : Nat) (P : Prg) (x y : Value) (m2 : Int) (k4 : Nat) (tk tw : Value) (W : World) : Prop where
  ex : ∃ vs us kl, kl.length ≤ k4 ∧ Own w.heap.size W tk tw vs kl us kl ∧ ((runV P).1 = 0 → (∀ v ∈ vs, ∀ g, v.ownBlock = some g → x.ownBlock ≠ some g) ∧ (∀ v ∈ vs, ∀ g, v.ownBlock = some g → y.ownBlock ≠ some g))
  b : Below w.heap.size w W
  hx : Blk W n3 32 #[x, .int .i64 m2]
  hy : Blk W (n3 + 1) 35 #[.int .i64 (runV P).1, .int .i64 (runV P).2.1]
  ka : (runV P).1 = 0 → Kp B2 W x (costL P)
  kb : (runV P).1 = 0 → Kp B2 W y (hgtL P)
theorem own_ge {B n : Nat} {W : World} {v : Value} {xs : List Value} (h : W.ownsRow B 25 1 v n xs) {g : Nat} (hg : v.ownBlock = some g) : B ≤ g := by
  rcases h.2 with ⟨rfl, _⟩ | ⟨g', cap, cur, rfl, hb, _⟩
  · simp [Value.ownBlock] at hg
  · have : g' = g := by simpa [Value.ownBlock] using hg
    omega
theorem kp_grown {B B' n : Nat} {W W1 : World} {t v : Value} {xs : List Value} {l : List Int} (ht : W.ownsRow B 25 1 t n xs) (hg : W.grownBy W1 t.ownBlock) (h : Kp B' W v l) : Kp B' W1 v l :=
  h.only (S := fun k => t.ownBlock = some k) ⟨hg.os, hg.tape, hg.output, hg.size, fun k hk hS => hg.block k hk (fun e => hS e.symm)⟩ (fun g hgv hS => by
    obtain ⟨cs, hc⟩ := own_blk25 ht hS
    obtain ⟨_, cs', hc'⟩ := h.blk hgv
    exact hc.ne_ hc' (by decide) rfl)
theorem blk_grown {B n g ty : Nat} {W W1 : World} {t : Value} {xs : List Value} {cs : Array Value} (ht : W.ownsRow B 25 1 t n xs) (hg : W.grownBy W1 t.ownBlock) (h : Blk W g ty cs) (hn : ty ≠ 25) : Blk W1 g ty cs :=
  h.grown hg (fun e => by
    obtain ⟨cs', hc⟩ := own_blk25 ht e.symm
    exact h.ne_ hc hn rfl)
theorem inn_add {w W0 W W1 W2 : World} {tk tw tk' tw' x y x' y' : Value} {vs us : List Value} {kl : List (List Int)} {P : Prg} {m2 : Int} {n3 B2 k4 : Nat}
    (hown : Own w.heap.size W0 tk tw vs kl us kl) (hlen : kl.length ≤ k4) (hsx : ∀ v ∈ vs, ∀ g, v.ownBlock = some g → x.ownBlock ≠ some g) (hsy : ∀ v ∈ vs, ∀ g, v.ownBlock = some g → y.ownBlock ≠ some g)
    (hB : Below w.heap.size w W0) (hx : Blk W0 n3 32 #[x, .int .i64 m2]) (hy : Blk W0 (n3 + 1) 35 #[.int .i64 (runV P).1, .int .i64 (runV P).2.1]) (ka : Kp B2 W0 x (costL P)) (kb : Kp B2 W0 y (hgtL P)) (hwb : w.heap.size ≤ B2)
    (hb : Below W0.heap.size W0 W) (kx : Kp W0.heap.size W x' (costL P)) (ky : Kp W0.heap.size W y' (hgtL P)) (sxy : ∀ g, x'.ownBlock = some g → y'.ownBlock ≠ some g)
    (o1 : W1.ownsRow w.heap.size 25 1 tk' (kl.length + 2) (vs ++ [x', y'])) (g1 : (W.alloc (.cells #[x', y'] 25)).grownBy W1 tk.ownBlock) (b1 : tk'.ownBlock = tk.ownBlock ∨ tk'.ownBlock = some (W.alloc (.cells #[x', y'] 25)).heap.size)
    (o2 : W2.ownsRow w.heap.size 25 1 tw' (kl.length + 2) (us ++ [x, y])) (g2 : (W1.alloc (.cells #[x, y] 25)).grownBy W2 tw.ownBlock) (b2 : tw'.ownBlock = tw.ownBlock ∨ tw'.ownBlock = some (W1.alloc (.cells #[x, y] 25)).heap.size) :
    Inn w B2 n3 P x y m2 (k4 + 2) tk' tw' W2 := by
  have hbW : Below W0.heap.size W0 (W.alloc (.cells #[x', y'] 25)) := hb.alloc hb.size _
  have hbA : Below W.heap.size W (W.alloc (.cells #[x', y'] 25)) := (Below.refl _ W).alloc (Nat.le_refl _) _
  have hw0 := hB.size
  have sx' := sep_new hown (n := W0.heap.size) (x := x') (fun g hg => (kx.blk hg).1) (Nat.le_refl _)
  have sy' := sep_new hown (n := W0.heap.size) (x := y') (fun g hg => (ky.blk hg).1) (Nat.le_refl _)
  have ltx : ∀ g, x.ownBlock = some g → g < W0.heap.size := fun g hg => by
    obtain ⟨_, cs, hc⟩ := ka.blk hg
    exact hc.lt
  have lty : ∀ g, y.ownBlock = some g → g < W0.heap.size := fun g hg => by
    obtain ⟨_, cs, hc⟩ := kb.blk hg
    exact hc.lt
  have hownA := hown.below hbW
  have K1 := hownA.addK (la := costL P) (lb := hgtL P) o1 g1 b1 ((kx.below hbA).base hw0) ((ky.below hbA).base hw0) sxy sx'.1 sy'.1 sx'.2 sy'.2
  have hb1 : Below W1.heap.size W1 (W1.alloc (.cells #[x, y] 25)) := (Below.refl _ W1).alloc (Nat.le_refl _) _
  have K1A := K1.below hb1
  have kaA := kp_grown hownA.k g1 (ka.below hbW)
  have kbA := kp_grown hownA.k g1 (kb.below hbW)
  have svx : ∀ v ∈ vs ++ [x', y'], ∀ g, v.ownBlock = some g → x.ownBlock ≠ some g := fun v hv g hg hxg => by
    have := ltx g hxg
    rcases List.mem_append.1 hv with h | h
    · exact hsx v h g hg hxg
    · simp at h
      rcases h with rfl | rfl
      · have := (kx.blk hg).1
        omega
      · have := (ky.blk hg).1
        omega
  have svy : ∀ v ∈ vs ++ [x', y'], ∀ g, v.ownBlock = some g → y.ownBlock ≠ some g := fun v hv g hg hxg => by
    have := lty g hxg
    rcases List.mem_append.1 hv with h | h
    · exact hsy v h g hg hxg
    · simp at h
      rcases h with rfl | rfl
      · have := (kx.blk hg).1
        omega
      · have := (ky.blk hg).1
        omega
  have K2 := K1A.addW (la := costL P) (lb := hgtL P) o2 g2 b2 ((kaA.below hb1).base hwb) ((kbA.below hb1).base hwb) svx svy
  refine ⟨⟨_, _, _, by simp; omega, K2, fun _ => ⟨svx, svy⟩⟩, ?_, ?_, ?_, fun _ => kp_grown K1A.w g2 (kaA.below hb1), fun _ => kp_grown K1A.w g2 (kbA.below hb1)⟩
  · have e1 : Below w.heap.size w (W.alloc (.cells #[x', y'] 25)) := hB.trans (hbW.mono hw0)
    have e2 := e1.grown g1 e1.size (fun k e => own_ge hown.k e)
    have e3 := e2.alloc e2.size (.cells #[x, y] 25)
    exact e3.grown g2 e3.size (fun k e => own_ge hown.w e)
  · exact blk_grown K1A.w g2 ((blk_grown hownA.k g1 (hx.below hbW hx.lt) (by decide)).below hb1 (by
      have := (blk_grown hownA.k g1 (hx.below hbW hx.lt) (by decide)).lt
      exact this)) (by decide)
  · exact blk_grown K1A.w g2 ((blk_grown hownA.k g1 (hy.below hbW hy.lt) (by decide)).below hb1 (by
      have := (blk_grown hownA.k g1 (hy.below hbW hy.lt) (by decide)).lt
      exact this)) (by decide)
theorem own_other {B : Nat} {W W1 : World} {tk tw : Value} {vs us : List Value} {kl wl : List (List Int)} (h : Own B W tk tw vs kl us wl) (hg : W.grownBy W1 tk.ownBlock) (o : Obj) : (W1.alloc o).ownsRow B 25 1 tw wl.length us :=
  own_only (S := fun _ => False) (own_only (S := fun k => tk.ownBlock = some k) h.w ⟨hg.os, hg.tape, hg.output, hg.size, fun k hk hS => hg.block k hk (fun e => hS e.symm)⟩ (fun k hk hS => h.s3 k hS hk)) (Only.of_new ((Below.refl _ W1).alloc (Nat.le_refl _) _)) (fun _ _ h => h)
theorem Inn.up {w : World} {B2 n3 : Nat} {P : Prg} {x y : Value} {m2 : Int} {k4 k5 : Nat} {tk tw : Value} {W : World} (h : Inn w B2 n3 P x y m2 k4 tk tw W) (hk : k4 ≤ k5) : Inn w B2 n3 P x y m2 k5 tk tw W := by
  obtain ⟨⟨vs, us, kl, h1, h2⟩, h3, h4, h5, h6, h7⟩ := h
  exact ⟨⟨vs, us, kl, Nat.le_trans h1 hk, h2⟩, h3, h4, h5, h6, h7⟩
end Go.Proofs.Ytjflllfkgbhemaa

/- append to kept numbers, for the walk of VerifyOwn. Conditions: none. -/
namespace Go.Proofs.Ytjflllfkgbhemaa
open Go.RowKit
theorem wp_more {w : World} {ops : Array Oper} {rest : List Oper} {o : Oper} {a : Act} {Q : Exit → Act → World → Prop} (hg : o.guard = none) (s x : Operand) (hop : o.op = Op.call { callee := Callee.builtin Builtin.append, args := #[s, x], argTypes := #[25, 25] })
    (i3 : TypeInfo) (h3 : Try.prog.info? 3 = some i3) (hz : i3.zero = some (.int .i64 0)) (hs1 : i3.size = 1) (hb8 : i3.bytes = 8)
    {B : Nat} {v : Value} {l : List Int} (hk : Kp B w v l) (hs : a.eval s = v) (ad : Addr) (c : Nat) (news : List Int) (hx : a.eval x = .slice (some ad) 3 c) (hn : news.length = 3) (hc : ∀ j u, (ints news)[j]? = some u → w.cell? (ad.add j) = some u)
    (hK : ∀ oa' c' w', Kp B w' v l → Only (fun k => v.ownBlock = some k) w w' → wpList Try.prog ops Q rest (a.put o.dst (.slice oa' (l.length + 3) c')) w') : wpList Try.prog ops Q (o :: rest) a w := by
  obtain ⟨oa, ca, rfl, k1, k2, k3, k4, k5⟩ := id hk
  have hkk := hk
  have hgrow : ∀ v' w', w'.ownsRow w.heap.size 3 1 v' (l.length + 3) (ints l ++ ints news) → w.grownBy w' none → wpList Try.prog ops Q rest (a.put o.dst v') w' := fun v' w' ho hgr => by
    obtain ⟨oa', c', rfl⟩ := own_slice ho
    have hon : Only (fun k => (Value.slice oa l.length ca).ownBlock = some k) w w' := (Only.refl _ w).grown hgr (fun k e => by cases e)
    have hbel : Below w.heap.size w w' := ⟨hgr.os, hgr.tape, hgr.output, hgr.size, fun k hk => hgr.block k hk (fun e => by cases e)⟩
    exact hK _ _ _ (hkk.below hbel) hon
  cases oa with
  | none =>
    have h0 := k4 rfl
    subst h0
    have hl0 : l.length = 0 := by omega
    refine wpList_append_grows w hg s x 25 hop 3 i3 (.int .i64 0) 1 8 Try.underlying25 h3 hz hs1 hb8 rfl (by decide) none l.length 0 (ints l) hs (fun _ => ⟨hl0, rfl⟩) (by simp [ints]) (fun b e => by cases e) ad 3 c (ints news) hx (by simp [ints, hn]) hc (by intro u hu; simp [ints] at hu; obtain ⟨y, _, rfl⟩ := hu; rfl) (by omega) (by unfold maxLen; omega) (by omega) hgrow
  | some b =>
    obtain ⟨g, cs, rfl, b1, b2, b3, b4⟩ := k5 b rfl
    have hbl : Blk w g 3 cs.toList.toArray := by simpa using b2
    refine wpList_append_arg w hg s x 25 hop 3 i3 (.int .i64 0) 1 8 Try.underlying25 h3 hz hs1 hb8 rfl (by decide) g 0 l.length ca (ints l) hs (by simp [ints]) (fun j u hj => by
      rw [Nat.zero_add, b2.cell]
      simp only [ints, List.getElem?_map, Option.map_eq_some_iff] at hj
      obtain ⟨y, hy, rfl⟩ := hj
      exact b4 j y hy) ad 3 c (ints news) hx (by simp [ints, hn]) hc (by intro u hu; simp [ints] at hu; obtain ⟨y, _, rfl⟩ := hu; rfl) (fun hr j hj => ⟨by
        rw [b2.cell]
        have : j < 3 := by simpa [ints, hn] using hj
        rw [Array.getElem?_eq_getElem (by omega)]
        rfl, b2.frozen _⟩) (by unfold maxLen; omega) (by omega) (fun hr => ?_) (fun _ => hgrow)
    have hlen : (ints news).length = 3 := by simp [ints, hn]
    have hcs : cs.toList.length = cs.size := by simp
    have hset := blk_setCells (ints news) (0 + l.length * 1) w cs.toList hbl (by omega)
    refine hK _ _ _ ⟨_, _, rfl, k1, k2, k3, k4, fun ad2 e => ?_⟩ ((only_setCells (g := g) (ints news) (0 + l.length * 1) w).mono (fun k e => .inl (by simp [Value.ownBlock, e])))
    injection e with e
    subst e
    refine ⟨g, _, rfl, b1, hset, by simp; omega, fun j y hj => ?_⟩
    have hj2 := (List.getElem?_eq_some_iff.1 hj).1
    have h6 := b4 j y hj
    simp only [List.getElem?_toArray]
    rw [List.getElem?_append_left (by simp; omega), List.getElem?_take, if_pos (by omega)]
    simpa using h6
theorem kp_store {B g k : Nat} {W : World} {n c : Nat} {l : List Int} (x : Int) (h : Kp B W (.slice (some ⟨g, 0, none⟩) n c) l) (hk : k < l.length) : Kp B (W.setCell ⟨g, k, none⟩ (.int .i64 x)) (.slice (some ⟨g, 0, none⟩) n c) (l.set k x) := by
  obtain ⟨oa, ca, e, k1, k2, k3, k4, k5⟩ := h
  simp only [Value.slice.injEq] at e
  obtain ⟨rfl, rfl, rfl⟩ := e
  obtain ⟨g', cs, e, b1, b2, b3, b4⟩ := k5 _ rfl
  simp only [Addr.mk.injEq, and_true] at e
  subst e
  refine ⟨_, c, by rw [List.length_set], by rw [List.length_set]; exact k1, k2, by rw [List.length_set]; exact k3, (fun e => by cases e), fun ad e => ?_⟩
  injection e with e
  subst e
  refine ⟨g, _, rfl, b1, b2.set_ k _, by simpa using b3, fun j y hj => ?_⟩
  rw [List.getElem?_set] at hj
  by_cases hjk : k = j
  · subst hjk
    rw [if_pos rfl, if_pos hk] at hj
    injection hj with hj
    subst hj
    simp [Array.getElem?_setIfInBounds]
    omega
  · rw [if_neg hjk] at hj
    rw [Array.getElem?_setIfInBounds, if_neg hjk]
    exact b4 j y hj
theorem only_store {g k : Nat} {W : World} {n c : Nat} {u : Value} : Only (fun q => (Value.slice (some ⟨g, 0, none⟩) n c).ownBlock = some q) W (W.setCell ⟨g, k, none⟩ u) :=
  (Only.refl _ W).setCell (p := ⟨g, k, none⟩) (.inl (by simp [Value.ownBlock])) u
/-- what the i-th kept row holds behind the writing -/
def ovL (i n : Nat) : List Int := (List.range n).map (fun (k : Nat) => 0 - 1000 * (i : Int) - (k : Int))
/-- the first 'i' rows are written over -/
def Ovr (kl kl' : List (List Int)) (i : Nat) : Prop := kl'.length = kl.length ∧ (∀ j, i ≤ j → kl'[j]? = kl[j]?) ∧ ∀ j l, j < i → kl'[j]? = some l → l = ovL j l.length
/-- the first 'k' numbers of the i-th row are written over -/
def ovK (i k : Nat) (l : List Int) : List Int := ovL i k ++ l.drop k
theorem ovL_length (i n : Nat) : (ovL i n).length = n := by simp [ovL]
theorem ovK_length {i k : Nat} {l : List Int} (h : k ≤ l.length) : (ovK i k l).length = l.length := by simp [ovK, ovL_length]; omega
theorem ovK_zero (i : Nat) (l : List Int) : ovK i 0 l = l := by simp [ovK, ovL]
theorem ovK_all (i : Nat) (l : List Int) : ovK i l.length l = ovL i l.length := by simp [ovK]
theorem ovL_succ (i k : Nat) : ovL i (k + 1) = ovL i k ++ [0 - 1000 * (i : Int) - (k : Int)] := by simp [ovL, List.range_succ]
theorem ovK_set {i k : Nat} {l : List Int} (h : k < l.length) : (ovK i k l).set k (0 - 1000 * (i : Int) - (k : Int)) = ovK i (k + 1) l := by
  have e : l.drop k = l[k] :: l.drop (k + 1) := (List.getElem_cons_drop h).symm
  unfold ovK
  rw [e, List.set_append, if_neg (by rw [ovL_length]; omega), ovL_length, Nat.sub_self, ovL_succ, List.append_assoc]
  rfl
theorem Ovr.step {kl kl' : List (List Int)} {i : Nat} {l : List Int} (h : Ovr kl kl' i) (hl : kl'[i]? = some l) : Ovr kl (kl'.set i (ovL i l.length)) (i + 1) := by
  obtain ⟨h1, h2, h3⟩ := h
  have hi := (List.getElem?_eq_some_iff.1 hl).1
  refine ⟨by simp [h1], fun j hj => ?_, fun j m hj hm => ?_⟩
  · rw [List.getElem?_set_ne (by omega)]
    exact h2 j (by omega)
  · by_cases e : i = j
    · subst e
      rw [List.getElem?_set_self hi] at hm
      injection hm with hm
      subst hm
      rw [ovL_length]
    · rw [List.getElem?_set_ne e] at hm
      exact h3 j m (by omega) hm
theorem own_get {B g n c : Nat} {W : World} {xs : List Value} {t : TypeId} (h : W.ownsRow B t 1 (.slice (some ⟨g, 0, none⟩) n c) n xs) (i : Nat) (x : Value) (hx : xs[i]? = some x) : W.cell? ⟨g, i, none⟩ = some x := by
  rcases h.2 with ⟨e, _⟩ | ⟨g', cap, cur, e, hb, hg, h1, h2, h3, h4⟩
  · simp at e
  · simp only [Value.slice.injEq, Option.some.injEq, Addr.mk.injEq, and_true, true_and] at e
    obtain ⟨rfl, rfl⟩ := e
    rw [Blk.cell (cs := cur) hg]
    have hi := (List.getElem?_eq_some_iff.1 hx).1
    have hl : xs.length = n * 1 := h.1
    have h5 : (cur.toList.take (n * 1))[i]? = xs[i]? := by rw [h4]
    rw [List.getElem?_take, if_pos (by omega), hx] at h5
    simpa using h5
theorem three_cells (w : World) (x y z : Int) : ∀ j u, (ints [x, y, z])[j]? = some u → (w.alloc (.cells #[.int .i64 x, .int .i64 y, .int .i64 z] 3)).cell? ((⟨w.heap.size, 0, none⟩ : Addr).add j) = some u := by
  intro j u hj
  have hadd : (⟨w.heap.size, 0, none⟩ : Addr).add j = ⟨w.heap.size, j, none⟩ := by unfold Addr.add; split <;> simp_all
  rw [hadd, (Blk.new w 3 #[.int .i64 x, .int .i64 y, .int .i64 z]).cell]
  simpa [ints] using hj
theorem own_kept {B : Nat} {W W' : World} {tk tw : Value} {vs us : List Value} {kl wl : List (List Int)} (h : Own B W tk tw vs kl us wl) {i : Nat} {v : Value} {l : List Int} (hv : vs[i]? = some v) (hl : kl[i]? = some l) (hk : Kp B W' v l) (ho : Only (fun k => v.ownBlock = some k) W W') : Own B W' tk tw vs kl us wl := by
  have := h.setK hv hl hk ho
  have e : kl.set i l = kl := by
    refine List.ext_getElem? fun j => ?_
    by_cases hij : i = j
    · subst hij
      rw [List.getElem?_set_self (List.getElem?_eq_some_iff.1 hl).1, hl]
    · rw [List.getElem?_set_ne hij]
  rwa [e] at this
theorem infoI : (Try.prog.info? 3).map (fun i => (i.zero, i.size, i.bytes)) = some (some (.int .i64 0), 1, 8) := by kernel_rfl
theorem own_set_self {B : Nat} {W : World} {tk tw : Value} {vs us : List Value} {kl wl : List (List Int)} (h : Own B W tk tw vs kl us wl) {i : Nat} {l : List Int} (hl : kl[i]? = some l) : Own B W tk tw vs (kl.set i l) us wl := by
  have e : kl.set i l = kl := by
    refine List.ext_getElem? fun j => ?_
    by_cases hij : i = j
    · subst hij
      rw [List.getElem?_set_self (List.getElem?_eq_some_iff.1 hl).1, hl]
    · rw [List.getElem?_set_ne hij]
  rwa [e]
theorem kp_at {B g k n c : Nat} {W : World} {l : List Int} (h : Kp B W (.slice (some ⟨g, 0, none⟩) n c) l) (hk : k < l.length) : W.cell? ⟨g, k, none⟩ = some (.int .i64 l[k]) ∧ W.frozen? ⟨g, k, none⟩ = false := by
  obtain ⟨oa, ca, e, k1, k2, k3, k4, k5⟩ := h
  simp only [Value.slice.injEq] at e
  obtain ⟨rfl, rfl, rfl⟩ := e
  obtain ⟨g', cs, e, b1, b2, b3, b4⟩ := k5 _ rfl
  simp only [Addr.mk.injEq, and_true] at e
  subst e
  exact ⟨by rw [b2.cell]; exact b4 k _ (List.getElem?_eq_getElem hk), b2.frozen _⟩
end Go.Proofs.Ytjflllfkgbhemaa
