/- Several texts in one: The walk of the reference's Heights. The walk of VerifyHeights. Conditions: those of each. -/
import Derived.Test.YtjflllfkgbhemaaM9
/- The walk of the reference's Heights. Conditions: the program lies in memory. -/
namespace Go.Proofs.Ytjflllfkgbhemaa
open Go.RowKit Go.PlainAid
theorem put_there {ats : List St} {u : Int × St} {m : Nat} (h : (atSt ats (m : Int)).there = true) : (atSt (putSt ats u) (m : Int)).there = true := by
  unfold putSt
  by_cases hk : u.1.toNat < ats.length
  · rw [atSt_set _ _ hk]
    split
    · rfl
    · exact h
  · rw [List.set_eq_of_length_le (by omega)]
    exact h
theorem puts_there {m : Nat} : ∀ (l : List (Int × St)) (ats : List St), (atSt ats (m : Int)).there = true → (atSt (l.foldl putSt ats) (m : Int)).there = true
  | [], _, h => h
  | u :: l, ats, h => puts_there l (putSt ats u) (put_there h)
theorem look_there {P : Prg} {n : Nat} {x : Ins} {ats : List St} (h : (lookV P n x (atSt ats (n : Int)) ats).1 = 0) : (atSt ats (n : Int)).there = true ∧ ∀ m : Nat, (atSt ats (m : Int)).there = true → (atSt (lookV P n x (atSt ats (n : Int)) ats).2 (m : Int)).there = true := by
  refine ⟨?_, fun m hm => ?_⟩
  · cases ht : (atSt ats (n : Int)).there
    · unfold lookV at h
      rw [if_pos ht] at h
      exact absurd h (by simp)
    · rfl
  · obtain ⟨_, _, _, _, e⟩ := look_good h
    rw [e]
    exact puts_there _ _ hm
theorem looks_there {P : Prg} : ∀ (k n : Nat) (ats : List St), (looksV P k n ats).1 = 0 → (∀ m : Nat, (atSt ats (m : Int)).there = true → (atSt (looksV P k n ats).2.2 (m : Int)).there = true) ∧ (∀ m : Nat, n ≤ m → m < n + k → (atSt (looksV P k n ats).2.2 (m : Int)).there = true)
  | 0, n, ats, _ => ⟨fun _ h => h, fun m h1 h2 => by omega⟩
  | k + 1, n, ats, h => by
    rw [looksV] at h ⊢
    by_cases h0 : (lookV P n (insAt P (n : Int)) (atSt ats (n : Int)) ats).1 = 0
    · rw [if_pos h0] at h ⊢
      obtain ⟨a1, a2⟩ := looks_there k (n + 1) _ h
      obtain ⟨b1, b2⟩ := look_there h0
      refine ⟨fun m hm => a1 m (b2 m hm), fun m h1 h2 => ?_⟩
      rcases Nat.eq_or_lt_of_le h1 with e | e
      · subst e
        exact a1 n (b2 n b1)
      · exact a2 m (by omega) (by omega)
    · rw [if_neg h0] at h
      exact absurd h h0
theorem look_of_run {P : Prg} (h : (runV P).1 = 0) : (lookF P).1 = 0 := by
  by_cases h0 : (lookF P).1 = 0
  · exact h0
  · have := (run_of_bad h0).1
    rw [h] at this
    exact absurd this.symm h0
theorem ats_of_run {P : Prg} (h : (runV P).1 = 0) : (runV P).2.2 = (looksV P P.cd.length 0 (ats0 P)).2.2 := by
  obtain ⟨h0, h1, _⟩ := look_ok (look_of_run h)
  cases ho : overV (fuelK P P.cd.length) (begins P) with
  | none =>
    have := runV_ok h0 (n := (looksV P P.cd.length 0 (ats0 P)).2.1) (ats := (looksV P P.cd.length 0 (ats0 P)).2.2) (by rw [← h1]) ho
    rw [this]
  | some b =>
    have := (run_of_over (look_of_run h) ho).1
    rw [h] at this
    exact absurd this (by decide)
theorem hts_at {P : Prg} {rs : List Rs} {ups : List Int} (h : (looksV P P.cd.length 0 (ats0 P)).1 = 0) (hr : Rel P P.cd.length (looksV P P.cd.length 0 (ats0 P)).2.2 rs ups) {i : Nat} (hi : i < P.cd.length) : ∃ s, (looksV P P.cd.length 0 (ats0 P)).2.2[i]? = some s ∧ (atRs rs (i : Int)).ty.size = s.ty.size := by
  have ht := (looks_there _ _ _ h).2 i (Nat.zero_le _) (by omega)
  have hlt : i < (looksV P P.cd.length 0 (ats0 P)).2.2.length := by rw [hr.la]; exact hi
  refine ⟨atSt (looksV P P.cd.length 0 (ats0 P)).2.2 (i : Int), by simp [atSt, hlt], ?_⟩
  rw [(hr.on i ht).1]
  exact cvB_size _
theorem costsR_slice {B : Nat} {w : World} {P : Prg} {v1 : Value} {m : Int} (h : CostsR B w (.agg #[v1, .int .i64 m]) P) : ∃ oa n ca, v1 = .slice oa n ca := by
  by_cases he : (runV P).1 = 0
  · obtain ⟨v2, e, hown⟩ := h.2 he
    injection e with e
    simp only [Array.mk.injEq, List.cons.injEq, and_true] at e
    obtain ⟨oa, ca, hv⟩ := own_slice hown
    exact ⟨oa, _, ca, e.1.trans hv⟩
  · have e := h.1 he
    injection e with e
    simp only [Array.mk.injEq, List.cons.injEq, and_true] at e
    exact ⟨_, _, _, e.1⟩
def HeightsRP (w : World) (P : Prg) : Ending → World → Prop := fun en w' => ∃ v, en = .returned (.tuple #[v, .agg #[.int .i64 (runV P).1, .int .i64 (runV P).2.1]]) ∧ HtsAre w.heap.size w' v P ∧ Below w.heap.size w w'
theorem runFits {P : Prg} (h : (runV P).1 = 0) : ∀ (i : Nat) (s : St), (runV P).2.2[i]? = some s → s.ty.size ≤ 256 := by
  obtain ⟨h0, h1, _⟩ := look_ok (look_of_run h)
  rw [ats_of_run h]
  have hf : ∀ (k n : Nat) (ats : List St), n + k = P.cd.length → ats.length = P.cd.length → Fits P ats → Fits P (looksV P k n ats).2.2 := by
    intro k
    induction k with
    | zero => intro n ats _ _ h; exact h
    | succ k ih =>
      intro n ats hn hl hfit
      rw [looksV]
      split
      · have hlt : n < ats.length := by omega
        have hs : ats[n]? = some (atSt ats (n : Int)) := by simp [atSt, hlt]
        obtain ⟨a, b⟩ := look_fits (x := insAt P (n : Int)) (by omega) hs hfit
        exact ih (n + 1) _ (by omega) (by rw [b]; exact hl) a
      · exact hfit
  intro i s hs
  exact (hf P.cd.length 0 (ats0 P) (by omega) (rel0 h0).la (ats0_fits P) i s hs).ty
set_option linter.unusedVariables false in
set_option linter.unusedSimpArgs false in
set_option maxRecDepth 100000 in
set_option maxHeartbeats 40000000 in
theorem heights_r (w : World) (p : PV) (P : Prg) (h : AMem w p P) : Calls Try.prog 18 #[p.val] w (HeightsRP w P) := by
  have hres : Try.f18.results = #[.tmp 2, .cell 3 35] := by kernel_rfl
  have HRES := hide hres
  clear hres
  have HRN := fun (W : World) (hb : Below w.heap.size w W) => hide (run_r W p P (h.below hb))
  have HLK := fun (W : World) (hb : Below w.heap.size w W) => hide (look_r W p P (h.below hb))
  have HM := hide h
  obtain ⟨e1, e2, e3, e4, e5, e6, _, _, _, _, _, lens⟩ := h
  obtain ⟨ga, va, ta, oa, ca, gl, gc, vl, vc, tl, tc, ol, oc, cl, cc, miss⟩ := p
  simp only at e1 e2 e3 e4 e5 e6
  subst e1 e2 e3 e4 e5 e6
  simp only [PV.val] at *
  obtain ⟨i3, hi3, hz0, hz1, hz2⟩ := info_parts info3
  have hW1 : Below w.heap.size w ((w.alloc (.cells #[.slice ga P.gh.length gc, .slice va P.vs.length vc, .slice ta P.ts.length tc, .slice oa P.os.length oc, .int .i64 P.miss, .slice ca P.cd.length cc] 28)).alloc (.cells #[.int .i64 0, .int .i64 0] 35)) := ((Below.refl _ w).alloc (Nat.le_refl _) _).alloc (by simp) _
  have HP1 := hide ((Blk.new w 28 #[.slice ga P.gh.length gc, .slice va P.vs.length vc, .slice ta P.ts.length tc, .slice oa P.os.length oc, .int .i64 P.miss, .slice ca P.cd.length cc]).alloc (.cells #[.int .i64 0, .int .i64 0] 35))
  have HF1 : Hid (Blk ((w.alloc (.cells #[.slice ga P.gh.length gc, .slice va P.vs.length vc, .slice ta P.ts.length tc, .slice oa P.os.length oc, .int .i64 P.miss, .slice ca P.cd.length cc] 28)).alloc (.cells #[.int .i64 0, .int .i64 0] 35)) (w.heap.size + 1) 35 #[.int .i64 0, .int .i64 0]) := hide (by
    have := Blk.new (w.alloc (.cells #[.slice ga P.gh.length gc, .slice va P.vs.length vc, .slice ta P.ts.length tc, .slice oa P.os.length oc, .int .i64 P.miss, .slice ca P.cd.length cc] 28)) 35 #[.int .i64 0, .int .i64 0]
    simpa using this)
  have HB1 := hide hW1
  clear hW1 lens
  unfold RunRP at HRN
  unfold LookP at HLK
  obtain ⟨e, he⟩ : ∃ e, (runV P).1 = e := ⟨_, rfl⟩
  obtain ⟨ra, hra⟩ : ∃ e, (runV P).2.1 = e := ⟨_, rfl⟩
  have HE := hide he
  have HRA := hide hra
  simp only [he, hra] at HRN
  clear he hra
  go_enter Try.func18, Try.ntmps18
  go_wp2_with fail
  go_at_call 14
  refine (HRN _ HB1.out).out.mono ?_
  rintro en w2 ⟨v1, m1, rfl, hc2, hb2⟩
  obtain ⟨o1, n1, c1, rfl⟩ := costsR_slice hc2
  clear hc2
  have hb3 : Below w2.heap.size w2 ((w2.alloc (.cells #[.slice o1 n1 c1, .int .i64 m1] 32)).alloc (.cells #[.int .i64 e, .int .i64 ra] 35)) := ((Below.refl _ w2).alloc (Nat.le_refl _) _).alloc (by simp) _
  have HP3 := hide ((HP1.out.below hb2 HP1.out.lt).below hb3 (HP1.out.below hb2 HP1.out.lt).lt)
  have HF3 := hide ((HF1.out.below hb2 HF1.out.lt).below hb3 (HF1.out.below hb2 HF1.out.lt).lt)
  have HB3 := hide ((HB1.out.trans (hb2.mono HB1.out.size)).trans (hb3.mono (Nat.le_trans HB1.out.size hb2.size)))
  have HX3 : Hid (Blk ((w2.alloc (.cells #[.slice o1 n1 c1, .int .i64 m1] 32)).alloc (.cells #[.int .i64 e, .int .i64 ra] 35)) (w2.heap.size + 1) 35 #[.int .i64 e, .int .i64 ra]) := hide (by
    have := Blk.new (w2.alloc (.cells #[.slice o1 n1 c1, .int .i64 m1] 32)) 35 #[.int .i64 e, .int .i64 ra]
    simpa using this)
  have hsz : w.heap.size + 2 ≤ w2.heap.size := by have := hb2.size; simp at this; omega
  have HSZ := hide hsz
  have hn1 : ¬ w2.heap.size + 1 = w.heap.size + 1 := by omega
  have hn2 : ¬ w.heap.size + 1 = w2.heap.size + 1 := by omega
  clear hb2 hb3
  skip
  by_cases hz : e = 0
  case neg =>
    have hb1 : (e != 0) = true := by simpa using hz
    have hb2 : (e == 0) = false := by simpa using hz
    have HNZ := hide hz
    clear hz
    have d0 : ((w2.alloc (.cells #[.slice o1 n1 c1, .int .i64 m1] 32)).alloc (.cells #[.int .i64 e, .int .i64 ra] 35)).cell? ⟨w.heap.size + 1, 0, none⟩ = some (.int .i64 0) := by first | (rw [HF3.out.cell]; rfl) | (rw [HF3.out.drew.cell]; rfl)
    have d1 : ((w2.alloc (.cells #[.slice o1 n1 c1, .int .i64 m1] 32)).alloc (.cells #[.int .i64 e, .int .i64 ra] 35)).cell? ⟨w.heap.size + 1, 1, none⟩ = some (.int .i64 0) := by first | (rw [HF3.out.cell]; rfl) | (rw [HF3.out.drew.cell]; rfl)
    have yd0 : ((w2.alloc (.cells #[.slice o1 n1 c1, .int .i64 m1] 32)).alloc (.cells #[.int .i64 e, .int .i64 ra] 35)).drew.cell? ⟨w.heap.size + 1, 0, none⟩ = some (.int .i64 0) := by first | (rw [HF3.out.cell]; rfl) | (rw [HF3.out.drew.cell]; rfl)
    have yd1 : ((w2.alloc (.cells #[.slice o1 n1 c1, .int .i64 m1] 32)).alloc (.cells #[.int .i64 e, .int .i64 ra] 35)).drew.cell? ⟨w.heap.size + 1, 1, none⟩ = some (.int .i64 0) := by first | (rw [HF3.out.cell]; rfl) | (rw [HF3.out.drew.cell]; rfl)
    have df0 := HF3.out.frozen 0
    have df1 := HF3.out.frozen 1
    have df0d := HF3.out.drew.frozen 0
    have df1d := HF3.out.drew.frozen 1
    go_wp2_with fail
    go_region
    all_goals
      try go_wp2_with fail
      have hbf := (HB3.out.setCell (by show w.heap.size ≤ w.heap.size + 1; omega) (.int .i64 e) (p := ⟨w.heap.size + 1, 0, none⟩)).setCell (by show w.heap.size ≤ w.heap.size + 1; omega) (.int .i64 ra) (p := ⟨w.heap.size + 1, 1, none⟩)
      have hdf := (HF3.out.set_ 0 (.int .i64 e)).set_ 1 (.int .i64 ra)
      have HBF := hide hbf
      have HDF := hide hdf
      clear hbf hdf
      generalize ((((w2.alloc (.cells #[.slice o1 n1 c1, .int .i64 m1] 32)).alloc (.cells #[.int .i64 e, .int .i64 ra] 35)).setCell ⟨w.heap.size + 1, 0, none⟩ (.int .i64 e)).setCell ⟨w.heap.size + 1, 1, none⟩ (.int .i64 ra)) = Wy at *
      have z2 : Wy.cell? ⟨w.heap.size + 1, 0, none⟩ = some (.int .i64 e) := by rw [HDF.out.cell]; rfl
      have z3 : Wy.cell? ⟨w.heap.size + 1, 1, none⟩ = some (.int .i64 ra) := by rw [HDF.out.cell]; rfl
      have z2d : Wy.drew.cell? ⟨w.heap.size + 1, 0, none⟩ = some (.int .i64 e) := z2
      have z3d : Wy.drew.cell? ⟨w.heap.size + 1, 1, none⟩ = some (.int .i64 ra) := z3
      refine bodyPost_ret (v := .tuple #[.slice none 0 0, .agg #[.int .i64 e, .int .i64 ra]]) ?_ rfl ?_
      · simp only [results, HRES.out]
        go_simp
      · unfold HeightsRP
        exact ⟨_, by rw [HE.out, HRA.out], ⟨fun _ => rfl, fun h0 => absurd (HE.out.symm.trans h0) HNZ.out⟩, by first | exact HBF.out.drew | exact HBF.out⟩
  subst hz
  have hlo := look_of_run HE.out
  obtain ⟨hcv, hlz, hl2⟩ := look_ok hlo
  have hats := ats_of_run HE.out
  have HLZ := hide hlz
  have HATS := hide hats
  obtain ⟨hln, hcl, _⟩ := check_len hcv
  have hra0 : ra = 0 := by rw [← HRA.out]; exact runV_zero HE.out
  subst hra0
  simp only [hlo, hl2, true_implies] at HLK
  clear hlo hcv hlz hl2 hats
  have q0 : ((w2.alloc (.cells #[.slice o1 n1 c1, .int .i64 m1] 32)).alloc (.cells #[.int .i64 0, .int .i64 0] 35)).cell? ⟨w.heap.size, 0, none⟩ = some (.slice ga P.gh.length gc) := by rw [HP3.out.cell]; rfl
  have q1 : ((w2.alloc (.cells #[.slice o1 n1 c1, .int .i64 m1] 32)).alloc (.cells #[.int .i64 0, .int .i64 0] 35)).cell? ⟨w.heap.size, 1, none⟩ = some (.slice va P.vs.length vc) := by rw [HP3.out.cell]; rfl
  have q2 : ((w2.alloc (.cells #[.slice o1 n1 c1, .int .i64 m1] 32)).alloc (.cells #[.int .i64 0, .int .i64 0] 35)).cell? ⟨w.heap.size, 2, none⟩ = some (.slice ta P.ts.length tc) := by rw [HP3.out.cell]; rfl
  have q3 : ((w2.alloc (.cells #[.slice o1 n1 c1, .int .i64 m1] 32)).alloc (.cells #[.int .i64 0, .int .i64 0] 35)).cell? ⟨w.heap.size, 3, none⟩ = some (.slice oa P.os.length oc) := by rw [HP3.out.cell]; rfl
  have q4 : ((w2.alloc (.cells #[.slice o1 n1 c1, .int .i64 m1] 32)).alloc (.cells #[.int .i64 0, .int .i64 0] 35)).cell? ⟨w.heap.size, 4, none⟩ = some (.int .i64 P.miss) := by rw [HP3.out.cell]; rfl
  have q5 : ((w2.alloc (.cells #[.slice o1 n1 c1, .int .i64 m1] 32)).alloc (.cells #[.int .i64 0, .int .i64 0] 35)).cell? ⟨w.heap.size, 5, none⟩ = some (.slice ca P.cd.length cc) := by rw [HP3.out.cell]; rfl
  go_wp2_with fail
  go_at_call 27
  refine (HLK _ HB3.out).out.mono ?_
  rintro en w4 ⟨pa, rfl, hb4, wb, lb, ab, ub, sb, rs, ups, sts, rfl, hbb, hL, hR⟩
  clear q0 q1 q2 q3 q4 q5
  have HL := hide (hL.alloc (.cells #[.int .i64 0, .int .i64 0] 35))
  have HR := hide hR
  have HF4 := hide ((HF3.out.below hb4 HF3.out.lt).alloc (.cells #[.int .i64 0, .int .i64 0] 35))
  have HB4 := hide ((HB3.out.trans (hb4.mono HB3.out.size)).alloc (Nat.le_trans HB3.out.size hb4.size) (.cells #[.int .i64 0, .int .i64 0] 35))
  have l60 : (w4.alloc (.cells #[.int .i64 0, .int .i64 0] 35)).cell? ⟨lb, 6, none⟩ = _ := HL.out.cellL.2.2.1
  clear hb4 hbb hL hR HLK
  go_wp2_with fail
  generalize w4.alloc (.cells #[.int .i64 0, .int .i64 0] 35) = W5 at *
  obtain ⟨ats, hats⟩ : ∃ a, (looksV P P.cd.length 0 (ats0 P)).2.2 = a := ⟨_, rfl⟩
  have HAT := fun (i : Nat) (hi : i < P.cd.length) => hts_at HLZ.out HR.out hi
  simp only [hats] at HAT
  have hatl := HR.out.la
  have HAE := hide (HATS.out.trans hats)
  rw [hats] at hatl
  have HATL := hide hatl
  have HATH := hide HAT
  clear hats HAT hatl
  go_loopw [8, 9] (fun tl tx W => ∃ i : Nat, tx = .int .i64 (i : Int) ∧ i ≤ P.cd.length ∧ W.ownsRow W5.heap.size 3 1 tl i (ints (htsV (ats.take i))) ∧ Below W5.heap.size W5 W) (fun _ tx _ => P.cd.length - (intOf tx).toNat)
  case atStart => exact ⟨0, rfl, Nat.zero_le _, World.ownsRow_nil _ _ _ _, Below.refl _ _⟩
  case round =>
    clear l60
    obtain ⟨i, rfl, hi, hown, hb⟩ := hrel
    rename World => W
    have u1 := IntWalk.i64_in ((i : Int) + 1) (by omega)
    have HLW := HL.out.below hb
    have l6 := HLW.cellL.2.2.1
    have HBW := hide hb
    have HOWN := hide hown
    by_cases hlt : i < P.cd.length
    · obtain ⟨s, hs, hty⟩ := HATH.out i hlt
      have r0 := (HLW.rsAt hlt _ (Below.refl _ _)).1
      obtain ⟨tz, htz⟩ : ∃ t, (atRs rs (i : Int)).ty = t := ⟨_, rfl⟩
      rw [htz] at r0 hty
      have htk := hts_take hs
      rw [← hty] at htk
      have HTK := hide htk
      have hI : (i : Int) < (P.cd.length : Int) := by omega
      have hzz : tz.size ≤ 4194304 := by
        have := hty
        have hf := (runFits HE.out) i s (by rw [HAE.out]; exact hs)
        omega
      clear hb hown HLW hs hty htz htk
      go_wp2_with (at_builtin
                   refine wpList_append_own _ rfl (.tmp 33) (.tmp 43) 25 rfl W5.heap.size 3 i3 (.int .i64 0) 1 8 Try.underlying25 hi3 hz0 hz1 hz2 rfl (by decide) _ _ _ rfl (HOWN.out.alloc _) ⟨W.heap.size, 0, none⟩ 1 1 [.int .i64 (tz.size : Int)] rfl rfl (one_cell W _) (by simp [Value.oneCell']) (by unfold maxLen; omega) (by omega) (by have := HBW.out.size; simp; omega) ?_
                   intro v' w10 hown' hgrow _
                   have HOWN2 := hide hown'
                   have HG2 := hide hgrow
                   clear hown' hgrow)
      go_roundw
      case rel => exact ⟨i + 1, by go_num, by omega, by rw [HTK.out]; exact HOWN2.out, (HBW.out.alloc HBW.out.size _).trans (below_grow HG2.out (fun k hk => (HOWN.out.lt k hk).1) (by have := HBW.out.size; simp; omega))⟩
      case measure =>
        simp only [intOf]
        omega
    · have hie : i = P.cd.length := by omega
      have hno : ¬ (i : Int) < (P.cd.length : Int) := by omega
      have hown2 := HOWN.out
      rw [hie, List.take_of_length_le (by rw [HATL.out]; exact Nat.le_refl _)] at hown2
      have kF := HF4.out.below HBW.out HF4.out.lt
      have d0 : W.cell? ⟨w.heap.size + 1, 0, none⟩ = some (.int .i64 0) := by rw [kF.cell]; rfl
      have d1 : W.cell? ⟨w.heap.size + 1, 1, none⟩ = some (.int .i64 0) := by rw [kF.cell]; rfl
      have df0 := kF.frozen 0
      have df1 := kF.frozen 1
      have hne := own_blk_ne hown2 kF (by decide)
      have HOY := hide (own_down (own_far (own_far hown2 (p := ⟨w.heap.size + 1, 0, none⟩) hne (.int .i64 0)) (p := ⟨w.heap.size + 1, 1, none⟩) hne (.int .i64 0)) HB4.out.size)
      have HFY := hide ((kF.set_ 0 (.int .i64 0)).set_ 1 (.int .i64 0))
      have HBY := hide (((HB4.out.trans (HBW.out.mono HB4.out.size)).setCell (p := ⟨w.heap.size + 1, 0, none⟩) (by show w.heap.size ≤ w.heap.size + 1; omega) (.int .i64 0)).setCell (p := ⟨w.heap.size + 1, 1, none⟩) (by show w.heap.size ≤ w.heap.size + 1; omega) (.int .i64 0))
      clear hie hown2 hown hb HLW hne kF hlt hi
      go_wp2_with fail
      generalize ((W.setCell ⟨w.heap.size + 1, 0, none⟩ (.int .i64 0)).setCell ⟨w.heap.size + 1, 1, none⟩ (.int .i64 0)) = Wy at *
      have z2 : Wy.cell? ⟨w.heap.size + 1, 0, none⟩ = some (.int .i64 0) := by rw [HFY.out.cell]; rfl
      have z3 : Wy.cell? ⟨w.heap.size + 1, 1, none⟩ = some (.int .i64 0) := by rw [HFY.out.cell]; rfl
      refine bodyPost_ret (v := .tuple #[u8, .agg #[.int .i64 0, .int .i64 0]]) ?_ rfl ?_
      · simp only [results, HRES.out]
        go_simp
      · unfold HeightsRP
        exact ⟨_, by rw [HE.out, HRA.out], ⟨fun h0 => absurd HE.out h0, fun _ => by rw [HAE.out]; exact ⟨HOY.out, HATL.out⟩⟩, HBY.out⟩
end Go.Proofs.Ytjflllfkgbhemaa

/- The walk of VerifyHeights. Conditions: the program lies in memory. -/
namespace Go.Proofs.Ytjflllfkgbhemaa
open Go.RowKit
theorem hts_same {B1 B2 : Nat} {w : World} {P : Prg} {v1 v2 : Value} (h1 : HtsAre B1 w v1 P) (h2 : HtsAre B2 w v2 P) (hl : P.cd.length ≤ maxLen) :
    ∃ (l : List Int) (oa ob : Option Addr) (n ca cb : Nat), v1 = .slice oa n ca ∧ v2 = .slice ob n cb ∧ l.length = n ∧ n ≤ maxLen ∧ Src w oa n (ints l) ∧ Src w ob n (ints l) ∧ (∀ ad, oa = some ad → B1 ≤ ad.block) ∧ (∀ ad, ob = some ad → B2 ≤ ad.block) := by
  by_cases he : (runV P).1 = 0
  · obtain ⟨o1, k1⟩ := h1.2 he
    obtain ⟨o2, _⟩ := h2.2 he
    obtain ⟨oa, ca, rfl, hs1, hb1⟩ := own_src o1
    obtain ⟨ob, cb, rfl, hs2, hb2⟩ := own_src o2
    exact ⟨_, oa, ob, _, ca, cb, rfl, rfl, by simp [htsV, k1], hl, hs1, hs2, hb1, hb2⟩
  · have e1 := h1.1 he
    have e2 := h2.1 he
    subst e1 e2
    have hs : Src w none 0 (ints []) := fun h0 => absurd h0 (by decide)
    have hz : ∀ (B : Nat) (ad : Addr), (none : Option Addr) = some ad → B ≤ ad.block := fun B ad e => by cases e
    exact ⟨[], none, none, 0, 0, 0, rfl, rfl, rfl, Nat.zero_le _, hs, hs, hz _, hz _⟩
theorem hts_slice {B : Nat} {w : World} {P : Prg} {v : Value} (h : HtsAre B w v P) : ∃ oa n ca, v = .slice oa n ca := by
  by_cases he : (runV P).1 = 0
  · obtain ⟨oa, ca, e⟩ := own_slice (h.2 he).1
    exact ⟨oa, _, ca, e⟩
  · exact ⟨_, _, _, h.1 he⟩
theorem HtsAre.below {B : Nat} {w w' : World} {v : Value} {P : Prg} (h : HtsAre B w v P) (hb : Below w.heap.size w w') : HtsAre B w' v P :=
  ⟨h.1, fun h0 => ⟨own_only (S := fun _ => False) (h.2 h0).1 (Only.of_new hb) (fun _ _ h => h.elim), (h.2 h0).2⟩⟩
set_option linter.unusedVariables false in
set_option linter.unusedSimpArgs false in
set_option maxRecDepth 100000 in
set_option maxHeartbeats 40000000 in
theorem heightsl_i (w : World) (p : PV) (P : Prg) (h : AMem w p P) :
    Calls Try.prog 5 #[p.val] w fun en w' => en = .returned (.bool true) ∧ Below w.heap.size w w' := by
  have HM := hide h
  have HFAR := fun (W : World) (hb : Below w.heap.size w W) => hide (far_i W p P (h.below hb))
  have HLEND := fun (W : World) (hb : Below w.heap.size w W) => lendProgram_i W p P (h.below hb)
  have HREF := fun (W : World) (hb : Below w.heap.size w W) => hide (heights_r W p P (h.below hb))
  have HHD := fun W => hide (head_i W)
  obtain ⟨e1, e2, e3, e4, e5, e6, _, _, _, _, _, _⟩ := h
  obtain ⟨ga, va, ta, oa, ca, gl, gc, vl, vc, tl, tc, ol, oc, cl, cc, miss⟩ := p
  simp only at e1 e2 e3 e4 e5 e6
  subst e1 e2 e3 e4 e5 e6
  simp only [PV.val] at *
  have HB1 := hide ((Below.refl w.heap.size w).alloc (Nat.le_refl _) (.cells #[.slice ga P.gh.length gc, .slice va P.vs.length vc, .slice ta P.ts.length tc, .slice oa P.os.length oc, .int .i64 P.miss, .slice ca P.cd.length cc] 28))
  have HP1 := hide (Blk.new w 28 #[.slice ga P.gh.length gc, .slice va P.vs.length vc, .slice ta P.ts.length tc, .slice oa P.os.length oc, .int .i64 P.miss, .slice ca P.cd.length cc])
  obtain ⟨fv, hfv⟩ : ∃ f, farV P = f := ⟨_, rfl⟩
  simp only [hfv] at HFAR
  have HFV := hide hfv
  clear hfv
  go_enter Try.func5, Try.ntmps5
  go_wp2_with fail
  go_at_call 11
  refine (HFAR _ HB1.out).out.mono ?_
  rintro en w2 ⟨rfl, hb2⟩
  have HB2 := hide (HB1.out.trans (hb2.mono HB1.out.size))
  have HP2 := hide (HP1.out.below hb2 HP1.out.lt)
  clear hb2
  have p0 : w2.cell? ⟨w.heap.size, 0, none⟩ = some (.slice ga P.gh.length gc) := by rw [(HP2.out).cell]; rfl
  have p1 : w2.cell? ⟨w.heap.size, 1, none⟩ = some (.slice va P.vs.length vc) := by rw [(HP2.out).cell]; rfl
  have p2 : w2.cell? ⟨w.heap.size, 2, none⟩ = some (.slice ta P.ts.length tc) := by rw [(HP2.out).cell]; rfl
  have p3 : w2.cell? ⟨w.heap.size, 3, none⟩ = some (.slice oa P.os.length oc) := by rw [(HP2.out).cell]; rfl
  have p4 : w2.cell? ⟨w.heap.size, 4, none⟩ = some (.int .i64 P.miss) := by rw [(HP2.out).cell]; rfl
  have p5 : w2.cell? ⟨w.heap.size, 5, none⟩ = some (.slice ca P.cd.length cc) := by rw [(HP2.out).cell]; rfl
  cases fv
  case true =>
    go_wp2_with fail
    go_at_call 10
    refine (HHD _).out.mono ?_
    rintro en w3 ⟨rfl, hb3⟩
    have HB3 := hide (HB2.out.trans (hb3.mono HB2.out.size))
    clear hb3
    go_wp2_with fail
    go_ret
    exact ⟨rfl, HB3.out⟩
  have hl : farN P := by
    have := HFV.out
    unfold farV at this
    unfold farN
    simp at this
    omega
  have HL := hide hl
  have HLD := hide (HLEND w2 HB2.out hl)
  clear hl HLEND
  go_wp2_with fail
  go_at_call 12
  refine HLD.out.mono ?_
  rintro en w3 ⟨gg, gv, gt, go, gd, rfl, hl3, hb3⟩
  simp only [PV.val, lentPV]
  have HL3 := hide hl3
  have HB3 := hide (HB2.out.trans (hb3.mono HB2.out.size))
  have HP3 := hide (HP2.out.below hb3 HP2.out.lt)
  have HZ3 : Hid (w2.heap.size ≤ w3.heap.size) := hide hb3.size
  clear hb3 hl3 p0 p1 p2 p3 p4 p5
  have HB4 := hide (HB3.out.alloc HB3.out.size (.cells #[.slice (some ⟨gg, 0, none⟩) P.gh.length (P.gh.length + 3), .slice (some ⟨gv, 0, none⟩) P.vs.length (P.vs.length + 3), .slice (some ⟨gt, 0, none⟩) P.ts.length (P.ts.length + 5), .slice (some ⟨go, 0, none⟩) P.os.length (P.os.length + 5), .int .i64 P.miss, .slice (some ⟨gd, 0, none⟩) P.cd.length (P.cd.length + 9)] 28))
  have HL4 := hide (HL3.out.below ((Below.refl _ w3).alloc (Nat.le_refl _) (.cells #[.slice (some ⟨gg, 0, none⟩) P.gh.length (P.gh.length + 3), .slice (some ⟨gv, 0, none⟩) P.vs.length (P.vs.length + 3), .slice (some ⟨gt, 0, none⟩) P.ts.length (P.ts.length + 5), .slice (some ⟨go, 0, none⟩) P.os.length (P.os.length + 5), .int .i64 P.miss, .slice (some ⟨gd, 0, none⟩) P.cd.length (P.cd.length + 9)] 28)))
  have HP4 := hide (HP3.out.alloc (.cells #[.slice (some ⟨gg, 0, none⟩) P.gh.length (P.gh.length + 3), .slice (some ⟨gv, 0, none⟩) P.vs.length (P.vs.length + 3), .slice (some ⟨gt, 0, none⟩) P.ts.length (P.ts.length + 5), .slice (some ⟨go, 0, none⟩) P.os.length (P.os.length + 5), .int .i64 P.miss, .slice (some ⟨gd, 0, none⟩) P.cd.length (P.cd.length + 9)] 28))
  have HM4 := hide (Blk.new w3 28 #[.slice (some ⟨gg, 0, none⟩) P.gh.length (P.gh.length + 3), .slice (some ⟨gv, 0, none⟩) P.vs.length (P.vs.length + 3), .slice (some ⟨gt, 0, none⟩) P.ts.length (P.ts.length + 5), .slice (some ⟨go, 0, none⟩) P.os.length (P.os.length + 5), .int .i64 P.miss, .slice (some ⟨gd, 0, none⟩) P.cd.length (P.cd.length + 9)])
  have hl4 := HL.out
  unfold farN at hl4
  have hlm : P.gh.length ≤ maxLen ∧ P.vs.length ≤ maxLen ∧ P.ts.length ≤ maxLen ∧ P.os.length ≤ maxLen ∧ P.cd.length ≤ maxLen := by unfold maxLen; omega
  have HRUN := hide (verifyHeights_i _ _ P (HL4.out.mem hlm) (HL4.out.mv (by unfold maxLen; omega)))
  have HLM := hide hlm
  have HL4x := hide hl4
  clear hlm hl4
  simp only [PV.val, lentPV] at HRUN
  go_wp2_with fail
  go_at_call 17
  refine HRUN.out.mono ?_
  rintro en w5 ⟨v1, rfl, hc5, hb5⟩
  obtain ⟨o1, n1, c1, rfl⟩ := hts_slice hc5
  have HC5 := hide hc5
  have HP5 := hide (HP4.out.below hb5 HP4.out.lt)
  have HM5 := hide (HM4.out.below hb5 HM4.out.lt)
  have HL5 := hide (HL4.out.below hb5)
  have HB5 := hide (HB4.out.trans (hb5.mono HB4.out.size))
  have HZ5 : Hid (w3.heap.size + 1 ≤ w5.heap.size) := hide (by have := hb5.size; simp at this; omega)
  clear hb5 hc5
  have hb6 : Below w5.heap.size w5 (w5.alloc (.cells #[.int .i64 (runV P).1, .int .i64 (runV P).2.1] 35)) := (Below.refl _ w5).alloc (Nat.le_refl _) _
  have HB6 := hide (HB5.out.trans (hb6.mono HB5.out.size))
  have HP6 := hide (HP5.out.below hb6 HP5.out.lt)
  have HM6 := hide (HM5.out.below hb6 HM5.out.lt)
  have HL6 := hide (HL5.out.below hb6)
  have HC6 := hide (HC5.out.below hb6)
  have HY6 := hide (Blk.new w5 35 #[.int .i64 (runV P).1, .int .i64 (runV P).2.1])
  clear hb6
  have q0 : (w5.alloc (.cells #[.int .i64 (runV P).1, .int .i64 (runV P).2.1] 35)).cell? ⟨w.heap.size, 0, none⟩ = some (.slice ga P.gh.length gc) := by rw [(HP6.out).cell]; rfl
  have q1 : (w5.alloc (.cells #[.int .i64 (runV P).1, .int .i64 (runV P).2.1] 35)).cell? ⟨w.heap.size, 1, none⟩ = some (.slice va P.vs.length vc) := by rw [(HP6.out).cell]; rfl
  have q2 : (w5.alloc (.cells #[.int .i64 (runV P).1, .int .i64 (runV P).2.1] 35)).cell? ⟨w.heap.size, 2, none⟩ = some (.slice ta P.ts.length tc) := by rw [(HP6.out).cell]; rfl
  have q3 : (w5.alloc (.cells #[.int .i64 (runV P).1, .int .i64 (runV P).2.1] 35)).cell? ⟨w.heap.size, 3, none⟩ = some (.slice oa P.os.length oc) := by rw [(HP6.out).cell]; rfl
  have q4 : (w5.alloc (.cells #[.int .i64 (runV P).1, .int .i64 (runV P).2.1] 35)).cell? ⟨w.heap.size, 4, none⟩ = some (.int .i64 P.miss) := by rw [(HP6.out).cell]; rfl
  have q5 : (w5.alloc (.cells #[.int .i64 (runV P).1, .int .i64 (runV P).2.1] 35)).cell? ⟨w.heap.size, 5, none⟩ = some (.slice ca P.cd.length cc) := by rw [(HP6.out).cell]; rfl
  have qq0 : w5.cell? ⟨w.heap.size, 0, none⟩ = some (.slice ga P.gh.length gc) := by rw [(HP5.out).cell]; rfl
  have qq1 : w5.cell? ⟨w.heap.size, 1, none⟩ = some (.slice va P.vs.length vc) := by rw [(HP5.out).cell]; rfl
  have qq2 : w5.cell? ⟨w.heap.size, 2, none⟩ = some (.slice ta P.ts.length tc) := by rw [(HP5.out).cell]; rfl
  have qq3 : w5.cell? ⟨w.heap.size, 3, none⟩ = some (.slice oa P.os.length oc) := by rw [(HP5.out).cell]; rfl
  have qq4 : w5.cell? ⟨w.heap.size, 4, none⟩ = some (.int .i64 P.miss) := by rw [(HP5.out).cell]; rfl
  have qq5 : w5.cell? ⟨w.heap.size, 5, none⟩ = some (.slice ca P.cd.length cc) := by rw [(HP5.out).cell]; rfl
  go_wp2_with fail
  go_at_call 18
  refine (HREF _ HB6.out).out.mono ?_
  unfold HeightsRP
  rintro en w7 ⟨v2, rfl, hc7, hb7⟩
  have HC7 := hide (HC6.out.below hb7)
  have HR7 := hide hc7
  have HP7 := hide (HP6.out.below hb7 HP6.out.lt)
  have HM7 := hide (HM6.out.below hb7 HM6.out.lt)
  have HL7 := hide (HL6.out.below hb7)
  have HY7 := hide (HY6.out.below hb7 HY6.out.lt)
  have HB7 := hide (HB6.out.trans (hb7.mono HB6.out.size))
  have HZ7 : Hid (w5.heap.size + 1 ≤ w7.heap.size) := hide (by have := hb7.size; simp at this; omega)
  clear hb7 hc7 q0 qq0 q1 qq1 q2 qq2 q3 qq3 q4 qq4 q5 qq5
  obtain ⟨l, oa2, o2, n2, ca2, c2, ev, rfl, hln, hn1, hs1, hs2, hg1, hg2⟩ := hts_same HC7.out HR7.out HLM.out.2.2.2.2
  injection ev with ev1 ev2 ev3
  subst ev1 ev2 ev3
  have HS1 := hide hs1
  have HS2 := hide hs2
  have HG1 := hide hg1
  have HG2 := hide hg2
  have HLN := hide hln
  have HN1 := hide hn1
  clear hs1 hs2 hg1 hg2 hln hn1 HC7 HR7 HC6 HC5
  have hb8 : Below w7.heap.size w7 (w7.alloc (.cells #[.int .i64 (runV P).1, .int .i64 (runV P).2.1] 35)) := (Below.refl _ w7).alloc (Nat.le_refl _) _
  have HB8 := hide (HB7.out.trans (hb8.mono HB7.out.size))
  have HP8 := hide (HP7.out.below hb8 HP7.out.lt)
  have HM8 := hide (HM7.out.below hb8 HM7.out.lt)
  have HL8 := hide (HL7.out.below hb8)
  have HY8 := hide (HY7.out.below hb8 HY7.out.lt)
  have HS18 := hide (HS1.out.below hb8)
  have HS28 := hide (HS2.out.below hb8)
  have HW8 := hide (Blk.new w7 35 #[.int .i64 (runV P).1, .int .i64 (runV P).2.1])
  clear hb8
  have q0 : (w7.alloc (.cells #[.int .i64 (runV P).1, .int .i64 (runV P).2.1] 35)).cell? ⟨w.heap.size, 0, none⟩ = some (.slice ga P.gh.length gc) := by rw [(HP8.out).cell]; rfl
  have q1 : (w7.alloc (.cells #[.int .i64 (runV P).1, .int .i64 (runV P).2.1] 35)).cell? ⟨w.heap.size, 1, none⟩ = some (.slice va P.vs.length vc) := by rw [(HP8.out).cell]; rfl
  have q2 : (w7.alloc (.cells #[.int .i64 (runV P).1, .int .i64 (runV P).2.1] 35)).cell? ⟨w.heap.size, 2, none⟩ = some (.slice ta P.ts.length tc) := by rw [(HP8.out).cell]; rfl
  have q3 : (w7.alloc (.cells #[.int .i64 (runV P).1, .int .i64 (runV P).2.1] 35)).cell? ⟨w.heap.size, 3, none⟩ = some (.slice oa P.os.length oc) := by rw [(HP8.out).cell]; rfl
  have q4 : (w7.alloc (.cells #[.int .i64 (runV P).1, .int .i64 (runV P).2.1] 35)).cell? ⟨w.heap.size, 4, none⟩ = some (.int .i64 P.miss) := by rw [(HP8.out).cell]; rfl
  have q5 : (w7.alloc (.cells #[.int .i64 (runV P).1, .int .i64 (runV P).2.1] 35)).cell? ⟨w.heap.size, 5, none⟩ = some (.slice ca P.cd.length cc) := by rw [(HP8.out).cell]; rfl
  have qq0 : w7.cell? ⟨w.heap.size, 0, none⟩ = some (.slice ga P.gh.length gc) := by rw [(HP7.out).cell]; rfl
  have qq1 : w7.cell? ⟨w.heap.size, 1, none⟩ = some (.slice va P.vs.length vc) := by rw [(HP7.out).cell]; rfl
  have qq2 : w7.cell? ⟨w.heap.size, 2, none⟩ = some (.slice ta P.ts.length tc) := by rw [(HP7.out).cell]; rfl
  have qq3 : w7.cell? ⟨w.heap.size, 3, none⟩ = some (.slice oa P.os.length oc) := by rw [(HP7.out).cell]; rfl
  have qq4 : w7.cell? ⟨w.heap.size, 4, none⟩ = some (.int .i64 P.miss) := by rw [(HP7.out).cell]; rfl
  have qq5 : w7.cell? ⟨w.heap.size, 5, none⟩ = some (.slice ca P.cd.length cc) := by rw [(HP7.out).cell]; rfl
  have s0 : (w7.alloc (.cells #[.int .i64 (runV P).1, .int .i64 (runV P).2.1] 35)).cell? ⟨w3.heap.size, 0, none⟩ = some (.slice (some ⟨gg, 0, none⟩) P.gh.length (P.gh.length + 3)) := by rw [(HM8.out).cell]; rfl
  have s1 : (w7.alloc (.cells #[.int .i64 (runV P).1, .int .i64 (runV P).2.1] 35)).cell? ⟨w3.heap.size, 1, none⟩ = some (.slice (some ⟨gv, 0, none⟩) P.vs.length (P.vs.length + 3)) := by rw [(HM8.out).cell]; rfl
  have s2 : (w7.alloc (.cells #[.int .i64 (runV P).1, .int .i64 (runV P).2.1] 35)).cell? ⟨w3.heap.size, 2, none⟩ = some (.slice (some ⟨gt, 0, none⟩) P.ts.length (P.ts.length + 5)) := by rw [(HM8.out).cell]; rfl
  have s3 : (w7.alloc (.cells #[.int .i64 (runV P).1, .int .i64 (runV P).2.1] 35)).cell? ⟨w3.heap.size, 3, none⟩ = some (.slice (some ⟨go, 0, none⟩) P.os.length (P.os.length + 5)) := by rw [(HM8.out).cell]; rfl
  have s4 : (w7.alloc (.cells #[.int .i64 (runV P).1, .int .i64 (runV P).2.1] 35)).cell? ⟨w3.heap.size, 4, none⟩ = some (.int .i64 P.miss) := by rw [(HM8.out).cell]; rfl
  have s5 : (w7.alloc (.cells #[.int .i64 (runV P).1, .int .i64 (runV P).2.1] 35)).cell? ⟨w3.heap.size, 5, none⟩ = some (.slice (some ⟨gd, 0, none⟩) P.cd.length (P.cd.length + 9)) := by rw [(HM8.out).cell]; rfl
  have ss0 : w7.cell? ⟨w3.heap.size, 0, none⟩ = some (.slice (some ⟨gg, 0, none⟩) P.gh.length (P.gh.length + 3)) := by rw [(HM7.out).cell]; rfl
  have ss1 : w7.cell? ⟨w3.heap.size, 1, none⟩ = some (.slice (some ⟨gv, 0, none⟩) P.vs.length (P.vs.length + 3)) := by rw [(HM7.out).cell]; rfl
  have ss2 : w7.cell? ⟨w3.heap.size, 2, none⟩ = some (.slice (some ⟨gt, 0, none⟩) P.ts.length (P.ts.length + 5)) := by rw [(HM7.out).cell]; rfl
  have ss3 : w7.cell? ⟨w3.heap.size, 3, none⟩ = some (.slice (some ⟨go, 0, none⟩) P.os.length (P.os.length + 5)) := by rw [(HM7.out).cell]; rfl
  have ss4 : w7.cell? ⟨w3.heap.size, 4, none⟩ = some (.int .i64 P.miss) := by rw [(HM7.out).cell]; rfl
  have ss5 : w7.cell? ⟨w3.heap.size, 5, none⟩ = some (.slice (some ⟨gd, 0, none⟩) P.cd.length (P.cd.length + 9)) := by rw [(HM7.out).cell]; rfl
  have hkp := keptProgram_i w _ w2.heap.size gg gv gt go gd _ P HL8.out HM.out HB8.out HB2.out.size HL.out
  have HKP := hide hkp
  clear hkp
  simp only [PV.val, lentPV] at HKP
  go_wp2_with fail
  go_at_call 15
  refine HKP.out.mono ?_
  rintro en w9 ⟨rfl, ho9⟩
  have hlt3 : gg < w3.heap.size ∧ gv < w3.heap.size ∧ gt < w3.heap.size ∧ go < w3.heap.size ∧ gd < w3.heap.size := ⟨HL3.out.g.lt, HL3.out.v.lt, HL3.out.t.lt, HL3.out.o.lt, HL3.out.c.lt⟩
  have hz5 := HZ5.out
  have hz7 := HZ7.out
  have hy := HY8.out.only ho9 (by omega)
  have hw := HW8.out.only ho9 (by omega)
  have hs1 := HS18.out.only ho9 (fun ad e => by have := HG1.out ad e; simp at this; omega)
  have hs2 := HS28.out.only ho9 (fun ad e => by have := HG2.out ad e; simp at this; omega)
  have hb9 : Below w.heap.size w w9 := HB8.out.trans (ho9.below (fun k hk => by have := HL3.out.base; have := HB2.out.size; omega) HB8.out.size)
  have HB9 := hide hb9
  have HSC := hide (same19_i w9 _ o2 _ c1 c2 l hs1 hs2 HLN.out HN1.out)
  have y0 : w9.cell? ⟨w5.heap.size, 0, none⟩ = some (.int .i64 (runV P).1) := by rw [(hy).cell]; rfl
  have y1 : w9.cell? ⟨w5.heap.size, 1, none⟩ = some (.int .i64 (runV P).2.1) := by rw [(hy).cell]; rfl
  have ww0 : w9.cell? ⟨w7.heap.size, 0, none⟩ = some (.int .i64 (runV P).1) := by rw [(hw).cell]; rfl
  have ww1 : w9.cell? ⟨w7.heap.size, 1, none⟩ = some (.int .i64 (runV P).2.1) := by rw [(hw).cell]; rfl
  clear hy hw hs1 hs2 hb9 ho9 hlt3 hz5 hz7 q0 qq0 s0 ss0 q1 qq1 s1 ss1 q2 qq2 s2 ss2 q3 qq3 s3 ss3 q4 qq4 s4 ss4 q5 qq5 s5 ss5
  generalize (runV P).1 = re at *
  generalize (runV P).2.1 = ra at *
  go_wp2_with fail
  go_at_call 19
  refine HSC.out.mono ?_
  rintro en w10 ⟨rfl, hb10⟩
  have HB10 := hide (HB9.out.trans (hb10.mono HB9.out.size))
  clear hb10 y0 y1 ww0 ww1
  go_wp2_with fail
  go_at_call 10
  refine (HHD _).out.mono ?_
  rintro en w11 ⟨rfl, hb11⟩
  have HB11 := hide (HB10.out.trans (hb11.mono HB10.out.size))
  clear hb11
  go_wp2_with fail
  go_ret
  exact ⟨rfl, HB11.out⟩
end Go.Proofs.Ytjflllfkgbhemaa
