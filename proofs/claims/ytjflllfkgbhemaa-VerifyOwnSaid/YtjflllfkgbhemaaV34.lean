/- The walk of run. Conditions: the bounds that are named. -/
import Derived.Test.YtjflllfkgbhemaaVx
import Derived.Test.YtjflllfkgbhemaaV29
import Derived.Test.YtjflllfkgbhemaaV30
import Derived.BigRegion
import Derived.Test.YtjflllfkgbhemaaVw
namespace Go.Proofs.Ytjflllfkgbhemaa
open Go.RowKit
theorem own_down {w : World} {base base' : Nat} {e : TypeId} {size n : Nat} {v : Value} {xs : List Value} (h : w.ownsRow base e size v n xs) (hb : base' ≤ base) : w.ownsRow base' e size v n xs := by
  refine ⟨h.1, ?_⟩
  rcases h.2 with hn | ⟨g, cap, cur, rfl, hg, rest⟩
  · exact .inl hn
  · exact .inr ⟨g, cap, cur, rfl, Nat.le_trans hb hg, rest⟩
theorem one_cell (w : World) (x : Value) : ∀ j u, [x][j]? = some u → (w.alloc (.cells #[x] 3)).cell? ((⟨w.heap.size, 0, none⟩ : Addr).add j) = some u := by
  intro j u hj
  obtain rfl : j = 0 := by have := (List.getElem?_eq_some_iff.1 hj).1; simp at this; exact this
  simp at hj
  subst hj
  exact (Blk.new w 3 #[x]).cell 0
theorem check_len {P : Prg} (h : checkV P = 0) : P.os.length ≤ 16 ∧ P.cd.length ≤ 262144 ∧ ∀ x ∈ P.cd, insE P x = 0 := by
  unfold checkV at h
  split at h
  · next ht =>
    unfold tablesV at ht
    simp only [Bool.and_eq_true, decide_eq_true_eq] at ht
    refine ⟨by omega, by omega, ?_⟩
    have : ∀ l : List Ins, insEs P l = 0 → ∀ x ∈ l, insE P x = 0 := by
      intro l
      induction l with
      | nil => intro _ x hx; cases hx
      | cons y l ih =>
        intro hl x hx
        rw [insEs] at hl
        split at hl
        · next hy =>
          rcases List.mem_cons.1 hx with rfl | hx
          · exact hy
          · exact ih hl x hx
        · next hy => exact absurd hl hy
    exact this _ h
  · cases h
theorem below_grow {B : Nat} {A C : World} {row : Option Nat} (h : A.grownBy C row) (hr : ∀ k, row = some k → B ≤ k) (hB : B ≤ A.heap.size) : Below B A C :=
  ⟨h.os, h.tape, h.output, h.size, fun k hk => h.block k (Nat.lt_of_lt_of_le hk hB) (fun e => by have := hr k e.symm; omega)⟩
theorem begins_in {P : Prg} (h : checkV P = 0) : ∀ b ∈ begins P, b < (P.cd.length : Int) := by
  unfold checkV at h
  split at h
  · next ht =>
    unfold tablesV at ht
    simp only [Bool.and_eq_true, decide_eq_true_eq, List.all_eq_true] at ht
    intro b hb
    unfold begins at hb
    rcases List.mem_append.1 hb with hb | hb
    · have := ht.1.2 b hb
      simp [fromV] at this
      omega
    · simp at hb
      have := ht.2
      simp [fromV] at this
      omega
  · cases h
theorem mark_len (ats : List St) (b : Int) : (mark ats b).length = ats.length := by unfold mark; split <;> simp
theorem marks_len : ∀ (l : List Int) (ats : List St), (l.foldl mark ats).length = ats.length
  | [], _ => rfl
  | b :: l, ats => by rw [List.foldl_cons, marks_len l, mark_len]
theorem mark_fits {P : Prg} {ats : List St} (h : Fits P ats) (b : Int) : Fits P (mark ats b) := by
  unfold mark
  split
  · intro i s hi
    rw [List.getElem?_set] at hi
    split at hi
    · split at hi
      · cases hi
        exact ⟨by simp [ByteArray.size], by simp, by simp⟩
      · cases hi
    · exact h i s hi
  · exact h
theorem marks_fits {P : Prg} : ∀ (l : List Int) (ats : List St), Fits P ats → Fits P (l.foldl mark ats)
  | [], _, h => h
  | b :: l, _, h => marks_fits l _ (mark_fits h b)
theorem ats0_fits (P : Prg) : Fits P (ats0 P) := marks_fits _ _ fun i s hi => by
  rw [List.getElem?_replicate] at hi
  split at hi
  · cases hi
    exact ⟨by simp [st0, ByteArray.size], by simp [st0], by simp [st0]⟩
  · cases hi
theorem make_sts (w : World) (n : Nat) (h : n ≤ 262144) : (Instr.makeSlice 69 (.int .i64 (n : Int)) (.int .i64 (n : Int))).run Try.prog w = .ok (.slice (some ⟨w.heap.size, 0, none⟩) n n) (w.alloc (.cells (madeCells (st0.cells (.slice none 0 0)) (n * 13)) 74)) := by
  obtain ⟨i0, hi, hz0, hz1, hz2⟩ := info_parts info74b
  have := run_make_rowN (P := Try.prog) 69 74 i0 (.agg (st0.cells (.slice none 0 0))) Try.underlying69 hi hz0 .i64 .i64 n n (Nat.le_refl _) (by rw [hz2]; omega) (by omega) w
  rw [hz1] at this
  exact this
set_option linter.unusedVariables false in
set_option linter.unusedSimpArgs false in
set_option maxRecDepth 100000 in
set_option maxHeartbeats 8000000 in
theorem run_i (w : World) (p : PV) (P : Prg) (h : PMem w p P) (hov : Mv w p.oa p.oc P.os) :
    Calls Try.prog 26 #[p.val] w fun en w' => Below w.heap.size w w' ∧ ((runV P).1 ≠ 0 → en = .returned (.tuple #[.pointer none, .agg #[.slice none 0 0, .int .i64 0], .agg #[.int .i64 (runV P).1, .int .i64 (runV P).2.1]])) ∧
      ((runV P).1 = 0 → ∃ vb rb g cs, en = .returned (.tuple #[.pointer (some ⟨vb, 0, none⟩), .agg #[.slice (some ⟨g, 0, none⟩) P.os.length P.os.length, .int .i64 (fAt (costsV (fuelK P P.cd.length) [P.miss]) 0)], .agg #[.int .i64 0, .int .i64 0]]) ∧
        VMem w' vb rb p P (runV P).2.2 ∧ w.heap.size ≤ vb ∧ w.heap.size ≤ rb ∧ w.heap.size ≤ g ∧ Blk w' g 3 cs ∧ ∀ (i : Nat) (x : Int), (costsV (fuelK P P.cd.length) P.os)[i]? = some x → cs[i]? = some (.int .i64 x)) := by
  have hres : Try.f26.results = #[.tmp 2, .cell 3 32, .cell 4 35] := by kernel_rfl
  have HM := hide h
  have HOV := hide hov
  have hchk := fun (W : World) (hb : Below w.heap.size w W) => hide (check_i W p P (h.below hb))
  obtain ⟨e1, e2, e3, e4, e5, e6, _, _, _, _, _, l1, l2, l3, l4, l5⟩ := h
  obtain ⟨ga, va, ta, oa, ca, gl, gc, vl, vc, tl, tc, ol, oc, cl, cc, miss⟩ := p
  simp only at e1 e2 e3 e4 e5 e6
  subst e1 e2 e3 e4 e5 e6
  simp only [PV.val] at *
  unfold maxLen at *
  have hB : Below w.heap.size w (((w.alloc (.cells #[.slice ga P.gh.length gc, .slice va P.vs.length vc, .slice ta P.ts.length tc, .slice oa P.os.length oc, .int .i64 P.miss, .slice ca P.cd.length cc] 28)).alloc (.cells #[.slice none 0 0, .int .i64 0] 32)).alloc (.cells #[.int .i64 0, .int .i64 0] 35)) := (((Below.refl _ w).alloc (Nat.le_refl _) _).alloc (by simp) _).alloc (by simp; omega) _
  have hP : Blk (((w.alloc (.cells #[.slice ga P.gh.length gc, .slice va P.vs.length vc, .slice ta P.ts.length tc, .slice oa P.os.length oc, .int .i64 P.miss, .slice ca P.cd.length cc] 28)).alloc (.cells #[.slice none 0 0, .int .i64 0] 32)).alloc (.cells #[.int .i64 0, .int .i64 0] 35)) w.heap.size 28 #[.slice ga P.gh.length gc, .slice va P.vs.length vc, .slice ta P.ts.length tc, .slice oa P.os.length oc, .int .i64 P.miss, .slice ca P.cd.length cc] := ((Blk.new w 28 _).alloc _).alloc _
  have hC : Blk (((w.alloc (.cells #[.slice ga P.gh.length gc, .slice va P.vs.length vc, .slice ta P.ts.length tc, .slice oa P.os.length oc, .int .i64 P.miss, .slice ca P.cd.length cc] 28)).alloc (.cells #[.slice none 0 0, .int .i64 0] 32)).alloc (.cells #[.int .i64 0, .int .i64 0] 35)) (w.heap.size + 1) 32 #[.slice none 0 0, .int .i64 0] := by
    have := (Blk.new (w.alloc (.cells #[.slice ga P.gh.length gc, .slice va P.vs.length vc, .slice ta P.ts.length tc, .slice oa P.os.length oc, .int .i64 P.miss, .slice ca P.cd.length cc] 28)) 32 #[.slice none 0 0, .int .i64 0]).alloc (.cells #[.int .i64 0, .int .i64 0] 35)
    simpa using this
  have hF : Blk (((w.alloc (.cells #[.slice ga P.gh.length gc, .slice va P.vs.length vc, .slice ta P.ts.length tc, .slice oa P.os.length oc, .int .i64 P.miss, .slice ca P.cd.length cc] 28)).alloc (.cells #[.slice none 0 0, .int .i64 0] 32)).alloc (.cells #[.int .i64 0, .int .i64 0] 35)) (w.heap.size + 1 + 1) 35 #[.int .i64 0, .int .i64 0] := by
    have := Blk.new ((w.alloc (.cells #[.slice ga P.gh.length gc, .slice va P.vs.length vc, .slice ta P.ts.length tc, .slice oa P.os.length oc, .int .i64 P.miss, .slice ca P.cd.length cc] 28)).alloc (.cells #[.slice none 0 0, .int .i64 0] 32)) 35 #[.int .i64 0, .int .i64 0]
    simpa using this
  have HB := hide hB
  have HP := hide hP
  have HC := hide hC
  have HF := hide hF
  have HK := hide (hchk _ hB).out
  clear hB hP hC hF hchk hov
  by_cases h0 : checkV P = 0
  · rw [h0] at HK
    obtain ⟨k16, kcd, kall⟩ := check_len h0
    have KALL := hide kall
    clear kall
    have hmk := fun W => make_sts W P.cd.length kcd
    go_enter Try.func26, Try.ntmps26
    go_wp2_with fail
    go_step3
    go_upto_region 4 with (go_at_call 32
                           refine HK.out.mono ?_
                           rintro en w2 ⟨rfl, hb2⟩
                           have HP := hide (HP.out.below hb2 HP.out.lt)
                           have HC := hide (HC.out.below hb2 HC.out.lt)
                           have HF := hide (HF.out.below hb2 HF.out.lt)
                           have HB := hide (HB.out.trans (hb2.mono HB.out.size))
                           have p0 : w2.cell? ⟨w.heap.size, 0, none⟩ = some (.slice ga P.gh.length gc) := by rw [HP.out.cell]; rfl
                           have p1 : w2.cell? ⟨w.heap.size, 1, none⟩ = some (.slice va P.vs.length vc) := by rw [HP.out.cell]; rfl
                           have p2 : w2.cell? ⟨w.heap.size, 2, none⟩ = some (.slice ta P.ts.length tc) := by rw [HP.out.cell]; rfl
                           have p3 : w2.cell? ⟨w.heap.size, 3, none⟩ = some (.slice oa P.os.length oc) := by rw [HP.out.cell]; rfl
                           have p4 : w2.cell? ⟨w.heap.size, 4, none⟩ = some (.int .i64 P.miss) := by rw [HP.out.cell]; rfl
                           have p5 : w2.cell? ⟨w.heap.size, 5, none⟩ = some (.slice ca P.cd.length cc) := by rw [HP.out.cell]; rfl
                           have c0 : w2.cell? ⟨w.heap.size + 1, 0, none⟩ = some (.slice none 0 0) := by rw [HC.out.cell]; rfl
                           have cf0 := HC.out.frozen 0
                           have c1 : w2.cell? ⟨w.heap.size + 1, 1, none⟩ = some (.int .i64 0) := by rw [HC.out.cell]; rfl
                           have cf1 := HC.out.frozen 1
                           have f0 : w2.cell? ⟨w.heap.size + 1 + 1, 0, none⟩ = some (.int .i64 0) := by rw [HF.out.cell]; rfl
                           have ff0 := HF.out.frozen 0
                           have f1 : w2.cell? ⟨w.heap.size + 1 + 1, 1, none⟩ = some (.int .i64 0) := by rw [HF.out.cell]; rfl
                           have ff1 := HF.out.frozen 1
                           have pa0 : ∀ o, (w2.alloc o).cell? _ = _ := fun o => (World.cell?_alloc_lt w2 o _ (by exact HP.out.lt)).trans p0
                           have pa1 : ∀ o, (w2.alloc o).cell? _ = _ := fun o => (World.cell?_alloc_lt w2 o _ (by exact HP.out.lt)).trans p1
                           have pa2 : ∀ o, (w2.alloc o).cell? _ = _ := fun o => (World.cell?_alloc_lt w2 o _ (by exact HP.out.lt)).trans p2
                           have pa3 : ∀ o, (w2.alloc o).cell? _ = _ := fun o => (World.cell?_alloc_lt w2 o _ (by exact HP.out.lt)).trans p3
                           have pa4 : ∀ o, (w2.alloc o).cell? _ = _ := fun o => (World.cell?_alloc_lt w2 o _ (by exact HP.out.lt)).trans p4
                           have pa5 : ∀ o, (w2.alloc o).cell? _ = _ := fun o => (World.cell?_alloc_lt w2 o _ (by exact HP.out.lt)).trans p5
                           clear hb2)
    go_cut [6] from 23 to 30 (fun s6 wx => ∃ vb rb : Nat, s6 = .pointer (some ⟨vb, 0, none⟩) ∧ w2.heap.size ≤ vb ∧ w2.heap.size ≤ rb ∧ Blk wx vb 71 #[.slice ga P.gh.length gc, .slice va P.vs.length vc, .slice ta P.ts.length tc, .slice oa P.os.length oc, .int .i64 P.miss, .slice ca P.cd.length cc, .slice (some ⟨rb, 0, none⟩) P.cd.length P.cd.length] ∧ Blk wx rb 74 (madeCells (st0.cells (.slice none 0 0)) (P.cd.length * 13)) ∧ Below w2.heap.size w2 wx)
    case first =>
      go_region
      all_goals
        go_wp2_with fail
        go_meet
        case rel => exact ⟨_, _, rfl, Nat.le_succ _, Nat.le_refl _, blk_two2 _ _ _ _, blk_two1 _ _ _ _, below_two _ _ _⟩
    case rest =>
      obtain ⟨vb, rb, rfl, hvb, hrb, kV, kR, hb3⟩ := hcut
      obtain ⟨w3, hw3⟩ : ∃ w3, w3 = wc := ⟨_, rfl⟩
      subst hw3
      have HLT2 := hide HP.out.lt
      have HLC2 := hide HC.out.lt
      have HLF2 := hide HF.out.lt
      have HRB2 := hide hrb
      have HRW := hide (Nat.le_trans HB.out.size hrb)
      have HVW := hide (Nat.le_trans HB.out.size hvb)
      have HVB := hide hvb
      have HRB := hide hrb
      have KV := hide kV
      have KR := hide kR
      clear p0 pa0 p1 pa1 p2 pa2 p3 pa3 p4 pa4 p5 pa5 c0 cf0 f0 ff0 c1 cf1 f1 ff1 hvb hrb kV kR
      have HP := hide (HP.out.below hb3 HP.out.lt)
      have HC := hide (HC.out.below hb3 HC.out.lt)
      have HF := hide (HF.out.below hb3 HF.out.lt)
      have HB := hide (HB.out.trans (hb3.mono HB.out.size))
      have p0 : w3.cell? ⟨w.heap.size, 0, none⟩ = some (.slice ga P.gh.length gc) := by rw [HP.out.cell]; rfl
      have p1 : w3.cell? ⟨w.heap.size, 1, none⟩ = some (.slice va P.vs.length vc) := by rw [HP.out.cell]; rfl
      have p2 : w3.cell? ⟨w.heap.size, 2, none⟩ = some (.slice ta P.ts.length tc) := by rw [HP.out.cell]; rfl
      have p3 : w3.cell? ⟨w.heap.size, 3, none⟩ = some (.slice oa P.os.length oc) := by rw [HP.out.cell]; rfl
      have p4 : w3.cell? ⟨w.heap.size, 4, none⟩ = some (.int .i64 P.miss) := by rw [HP.out.cell]; rfl
      have p5 : w3.cell? ⟨w.heap.size, 5, none⟩ = some (.slice ca P.cd.length cc) := by rw [HP.out.cell]; rfl
      have c0 : w3.cell? ⟨w.heap.size + 1, 0, none⟩ = some (.slice none 0 0) := by rw [HC.out.cell]; rfl
      have cf0 := HC.out.frozen 0
      have c1 : w3.cell? ⟨w.heap.size + 1, 1, none⟩ = some (.int .i64 0) := by rw [HC.out.cell]; rfl
      have cf1 := HC.out.frozen 1
      have f0 : w3.cell? ⟨w.heap.size + 1 + 1, 0, none⟩ = some (.int .i64 0) := by rw [HF.out.cell]; rfl
      have ff0 := HF.out.frozen 0
      have f1 : w3.cell? ⟨w.heap.size + 1 + 1, 1, none⟩ = some (.int .i64 0) := by rw [HF.out.cell]; rfl
      have ff1 := HF.out.frozen 1
      clear hb3
      have pa3 : ∀ o, (w3.alloc o).cell? _ = _ := fun o => (World.cell?_alloc_lt w3 o _ (by exact HP.out.lt)).trans p3
      have pa4 : ∀ o, (w3.alloc o).cell? _ = _ := fun o => (World.cell?_alloc_lt w3 o _ (by exact HP.out.lt)).trans p4
      obtain ⟨i3, hi3, hz0, hz1, hz2⟩ := info_parts info3
      have hcl := fun (W : World) (hb : Below w3.heap.size w3 W) => clone_i W oa oc P.os ((HOV.out.below (HB.out)).below hb) (by omega)
      have HCL := hide hcl
      clear hcl
      go_upto_region 5 with fail
      go_cut [7] from 30 to 37 (fun s7 wx => ∃ v7 : Value, s7 = v7 ∧ wx.ownsRow w3.heap.size 3 1 v7 (P.os.length + 1) (ints P.os ++ [.int .i64 P.miss]) ∧ Below w3.heap.size w3 wx)
      case first =>
        go_region_law (first
          | (refine step_call rfl 33 (.tmp 31) 25 rfl Try.f33 Try.func33 (by decide) (by decide) (.slice oa P.os.length oc) (by simp [Act.eval, Act.put]) (fun v' w' => w'.ownsRow w3.heap.size 3 1 v' P.os.length (ints P.os) ∧ Below w3.heap.size w3 w') ((HCL.out w3.drew (Below.refl _ _).drew).mono (fun e w' hh => by
                obtain ⟨v', rfl, ho, hb'⟩ := hh
                exact ⟨v', rfl, own_down ho (by simp), (Below.refl _ w3).drew.trans hb'⟩)) ?_
             rintro v4 w4 ⟨hown, hb4⟩
             have p4 : w4.cell? _ = _ := (hb4.cell (by exact HP.out.lt)).trans p4
             have HOWN := hide hown
             have HB4 := hide hb4
             clear hown hb4)
          | (refine step_call rfl 33 (.tmp 31) 25 rfl Try.f33 Try.func33 (by decide) (by decide) (.slice oa P.os.length oc) (by simp [Act.eval, Act.put]) (fun v' w' => w'.ownsRow (w3.heap.size + 1) 3 1 v' P.os.length (ints P.os) ∧ Below w3.heap.size w3 w' ∧ Blk w' w3.heap.size 3 #[.int .i64 P.miss]) ((HCL.out (w3.alloc (.cells #[.int .i64 P.miss] 3)).drew ((Below.refl _ _).alloc (Nat.le_refl _) _).drew).mono (fun e w' hh => by
                obtain ⟨v', rfl, ho, hb'⟩ := hh
                exact ⟨v', rfl, own_down ho (by simp), ((Below.refl _ w3).alloc (Nat.le_refl _) _).drew.trans (hb'.mono (by simp)), (Blk.new w3 3 _).drew.below hb' (by simp)⟩)) ?_
             rintro v4 w4 ⟨hown, hb4, hm4⟩
             have p4 : w4.cell? _ = _ := (hb4.cell (by exact HP.out.lt)).trans p4
             have HOWN := hide (own_down hown (Nat.le_succ _))
             have HB4 := hide hb4
             have HM4 := hide hm4
             clear hown hb4 hm4)
          | (refine step_append_own rfl (.tmp 32) (.tmp 35) 25 rfl w3.heap.size 3 i3 (.int .i64 0) 1 8 Try.underlying25 hi3 hz0 hz1 hz2 rfl (by decide) v4 P.os.length (ints P.os) (by simp [Act.eval, Act.put]) (by first | exact HOWN.out | exact own_keep HOWN.out (fun k hk => Below.heap_alloc _ _ k (HOWN.out.lt k hk).2)) ⟨_, 0, none⟩ 1 1 [.int .i64 P.miss] (by simp [Act.eval, Act.put]; rfl) rfl (by
                intro j u hj
                obtain rfl : j = 0 := by have := (List.getElem?_eq_some_iff.1 hj).1; simp at this; exact this
                simp at hj
                subst hj
                show World.cell? _ ⟨_, 0, none⟩ = _
                first
                | exact (Blk.new w4 3 #[.int .i64 P.miss]).cell 0
                | exact HM4.out.cell 0) (by simp [Value.oneCell']) (by unfold maxLen; omega) (by omega) (by have := HB4.out.size; simp; omega) ?_
             intro v5 w5 hown5 hgrow
             have HOWN5 := hide hown5
             have HGR := hide hgrow
             clear hown5 hgrow))
        all_goals
          go_wp2_with fail
          go_meet
          case rel => exact ⟨_, rfl, HOWN5.out, by first | exact HB4.out.trans (below_grow HGR.out (fun k hk => (HOWN.out.lt k hk).1) HB4.out.size) | exact (HB4.out.alloc HB4.out.size _).trans (below_grow HGR.out (fun k hk => (HOWN.out.lt k hk).1) (by have := HB4.out.size; simp; omega))⟩
      case rest =>
        obtain ⟨v7, hs7, hown, hb5⟩ := hcut
        obtain ⟨w5, hw5⟩ : ∃ w5, w5 = wc := ⟨_, rfl⟩
        subst hw5
        obtain ⟨g7, cap7, ev, hc1, hc2⟩ := own_form hown (by omega)
        subst ev
        subst hs7
        have HW5 := hide (HB.out.trans (hb5.mono HB.out.size))
        have hvm : VMem w5 vb rb ⟨ga, va, ta, oa, ca, P.gh.length, gc, P.vs.length, vc, P.ts.length, tc, P.os.length, oc, P.cd.length, cc, P.miss⟩ P (List.replicate P.cd.length st0) := ⟨HM.out.below HW5.out, by rw [List.length_replicate]; exact KV.out.below hb5 KV.out.lt, made_at w5 _ _ rb (KR.out.below hb5 KR.out.lt) (by simp [madeCells]) (fun i j hi hj => made_cells _ i j hi hj), by simp⟩
        have hrow : ∀ (i : Nat) (x : Int), (begins P)[i]? = some x → w5.cell? ⟨g7, i, none⟩ = some (.int .i64 x) := fun i x hx => by
          have hlt := (List.getElem?_eq_some_iff.1 hx).1
          have hlen : (begins P).length = P.os.length + 1 := by simp [begins]
          rw [hown.cellAt i (by omega)]
          have e : ints P.os ++ [Value.int .i64 P.miss] = ints (begins P) := by simp [ints, begins]
          rw [e, ints, List.getElem?_map, hx]
          rfl
        have hrb5 : w.heap.size ≤ rb := HRW.out
        have hfar : ∀ w', Only (fun k => k = rb) w5 w' → PMem w' ⟨ga, va, ta, oa, ca, P.gh.length, gc, P.vs.length, vc, P.ts.length, tc, P.os.length, oc, P.cd.length, cc, P.miss⟩ P := fun w' ho => HM.out.below (below_only HW5.out ho hrb5 HW5.out.size)
        have hg7 := (hown.lt g7 rfl)
        have h7rb : g7 ≠ rb := fun e => own_blk_ne hown (KR.out.below hb5 KR.out.lt) (by decide) (by rw [← e]; rfl)
        have HVM := hide hvm
        have HROW := hide hrow
        have HFAR := hide hfar
        have H7 := hide h7rb
        have HG7 := hide hg7
        have HB5 := hide hb5
        have HBI := hide (begins_in h0)
        have HBL : Hid ((begins P).length = P.os.length + 1) := hide (by simp [begins])
        clear hvm hrow hfar h7rb hown hb5 hg7 hrb5
        go_wp2_with fail
        go_loopw [39] (fun tx W => ∃ i : Nat, tx = .int .i64 (i : Int) ∧ i ≤ P.os.length + 1 ∧ VMem W vb rb ⟨ga, va, ta, oa, ca, P.gh.length, gc, P.vs.length, vc, P.ts.length, tc, P.os.length, oc, P.cd.length, cc, P.miss⟩ P (((begins P).take i).foldl mark (List.replicate P.cd.length st0)) ∧ Only (fun k => k = rb) w5 W) (fun tx _ => P.os.length + 1 - (intOf tx).toNat)
        case atStart => exact ⟨0, rfl, Nat.zero_le _, HVM.out, Only.refl _ _⟩
        case round =>
          clear HVM
          obtain ⟨i, rfl, hi, hvm, hon⟩ := hrel
          rename World => W
          have u1 := IntWalk.i64_in ((i : Int) + 1) (by omega)
          by_cases hlt : i < P.os.length + 1
          · obtain ⟨b, hb⟩ : ∃ b, (begins P)[i]? = some b := ⟨_, List.getElem?_eq_getElem (by rw [HBL.out]; exact hlt)⟩
            have hbl := HBI.out b (List.mem_of_getElem? hb)
            have c0 : W.cell? ⟨g7, i, none⟩ = some (.int .i64 b) := (hon.cell (by exact HG7.out.2) (by exact H7.out)).trans (HROW.out i b hb)
            have htk : ((begins P).take (i + 1)).foldl mark (List.replicate P.cd.length st0) = mark (((begins P).take i).foldl mark (List.replicate P.cd.length st0)) b := by rw [List.take_add_one, hb]; simp
            by_cases hb0 : 0 ≤ b
            · obtain ⟨bn, rfl⟩ := Int.eq_ofNat_of_zero_le hb0
              have hbn : bn < P.cd.length := by omega
              have hmk2 : mark (((begins P).take i).foldl mark (List.replicate P.cd.length st0)) (bn : Int) = ((((begins P).take i).foldl mark (List.replicate P.cd.length st0))).set bn ⟨true, ⟨#[]⟩, [], 0⟩ := by simp [mark]
              have hr := hvm.r
              obtain ⟨⟨cs, hcs, hsz⟩, _⟩ := hvm.r
              have hlen := hvm.len
              have v6 : W.cell? ⟨vb, 6, none⟩ = some (.slice (some ⟨rb, 0, none⟩) (((begins P).take i).foldl mark (List.replicate P.cd.length st0)).length (((begins P).take i).foldl mark (List.replicate P.cd.length st0)).length) := (by rw [hvm.v.cell]; rfl)
              rw [hlen] at v6
              have hcs13 : bn * 13 + 12 < cs.size := by rw [hsz, hlen]; omega
              obtain ⟨x0, r0⟩ : ∃ x, W.cell? ⟨rb, bn * 13, none⟩ = some x := ⟨_, by rw [hcs.cell]; exact Array.getElem?_eq_getElem (by omega)⟩
              have rf0 := hcs.frozen (bn * 13)
              obtain ⟨x1, r1⟩ : ∃ x, W.cell? ⟨rb, bn * 13 + 1, none⟩ = some x := ⟨_, by rw [hcs.cell]; exact Array.getElem?_eq_getElem (by omega)⟩
              have rf1 := hcs.frozen (bn * 13 + 1)
              obtain ⟨x2, r2⟩ : ∃ x, W.cell? ⟨rb, bn * 13 + 2, none⟩ = some x := ⟨_, by rw [hcs.cell]; exact Array.getElem?_eq_getElem (by omega)⟩
              have rf2 := hcs.frozen (bn * 13 + 2)
              obtain ⟨x3, r3⟩ : ∃ x, W.cell? ⟨rb, bn * 13 + 3, none⟩ = some x := ⟨_, by rw [hcs.cell]; exact Array.getElem?_eq_getElem (by omega)⟩
              have rf3 := hcs.frozen (bn * 13 + 3)
              obtain ⟨x4, r4⟩ : ∃ x, W.cell? ⟨rb, bn * 13 + 4, none⟩ = some x := ⟨_, by rw [hcs.cell]; exact Array.getElem?_eq_getElem (by omega)⟩
              have rf4 := hcs.frozen (bn * 13 + 4)
              obtain ⟨x5, r5⟩ : ∃ x, W.cell? ⟨rb, bn * 13 + 5, none⟩ = some x := ⟨_, by rw [hcs.cell]; exact Array.getElem?_eq_getElem (by omega)⟩
              have rf5 := hcs.frozen (bn * 13 + 5)
              obtain ⟨x6, r6⟩ : ∃ x, W.cell? ⟨rb, bn * 13 + 6, none⟩ = some x := ⟨_, by rw [hcs.cell]; exact Array.getElem?_eq_getElem (by omega)⟩
              have rf6 := hcs.frozen (bn * 13 + 6)
              obtain ⟨x7, r7⟩ : ∃ x, W.cell? ⟨rb, bn * 13 + 7, none⟩ = some x := ⟨_, by rw [hcs.cell]; exact Array.getElem?_eq_getElem (by omega)⟩
              have rf7 := hcs.frozen (bn * 13 + 7)
              obtain ⟨x8, r8⟩ : ∃ x, W.cell? ⟨rb, bn * 13 + 8, none⟩ = some x := ⟨_, by rw [hcs.cell]; exact Array.getElem?_eq_getElem (by omega)⟩
              have rf8 := hcs.frozen (bn * 13 + 8)
              obtain ⟨x9, r9⟩ : ∃ x, W.cell? ⟨rb, bn * 13 + 9, none⟩ = some x := ⟨_, by rw [hcs.cell]; exact Array.getElem?_eq_getElem (by omega)⟩
              have rf9 := hcs.frozen (bn * 13 + 9)
              obtain ⟨x10, r10⟩ : ∃ x, W.cell? ⟨rb, bn * 13 + 10, none⟩ = some x := ⟨_, by rw [hcs.cell]; exact Array.getElem?_eq_getElem (by omega)⟩
              have rf10 := hcs.frozen (bn * 13 + 10)
              obtain ⟨x11, r11⟩ : ∃ x, W.cell? ⟨rb, bn * 13 + 11, none⟩ = some x := ⟨_, by rw [hcs.cell]; exact Array.getElem?_eq_getElem (by omega)⟩
              have rf11 := hcs.frozen (bn * 13 + 11)
              obtain ⟨x12, r12⟩ : ∃ x, W.cell? ⟨rb, bn * 13 + 12, none⟩ = some x := ⟨_, by rw [hcs.cell]; exact Array.getElem?_eq_getElem (by omega)⟩
              have rf12 := hcs.frozen (bn * 13 + 12)
              have hon2 : Only (fun k => k = rb) w5 (putAt W rb bn (.bool true) (.string ⟨#[]⟩) (.int .i64 0) (.int .i64 0) (.int .i64 0) (.int .i64 0) (.int .i64 0) (.int .i64 0) (.int .i64 0) (.int .i64 0) (.int .i64 0) (.int .i64 0) (.slice none 0 0)) := hon.trans (putAt_only _ _ _ _ _ _ _ _ _ _ _ _ _ _ _ _)
              have hrw : AtRow (putAt W rb bn (.bool true) (.string ⟨#[]⟩) (.int .i64 0) (.int .i64 0) (.int .i64 0) (.int .i64 0) (.int .i64 0) (.int .i64 0) (.int .i64 0) (.int .i64 0) (.int .i64 0) (.int .i64 0) (.slice none 0 0)) rb (((((begins P).take i).foldl mark (List.replicate P.cd.length st0))).set bn ⟨true, ⟨#[]⟩, [], 0⟩) := put_row hr (by rw [hlen]; exact hbn) ⟨true, ⟨#[]⟩, [], 0⟩ none 0 ⟨⟨by simp, by unfold maxLen; omega, fun _ => rfl, (fun a ha => by cases ha), (fun k x hx => by simp at hx)⟩, (fun a ha => by cases ha)⟩
              have hvb2 : Blk (putAt W rb bn (.bool true) (.string ⟨#[]⟩) (.int .i64 0) (.int .i64 0) (.int .i64 0) (.int .i64 0) (.int .i64 0) (.int .i64 0) (.int .i64 0) (.int .i64 0) (.int .i64 0) (.int .i64 0) (.slice none 0 0)) vb 71 _ := (only_ty (putAt_only _ _ _ _ _ _ _ _ _ _ _ _ _ _ _ _) hcs hvm.v (by decide)).trans hvm.v
              have hvm2 : VMem (putAt W rb bn (.bool true) (.string ⟨#[]⟩) (.int .i64 0) (.int .i64 0) (.int .i64 0) (.int .i64 0) (.int .i64 0) (.int .i64 0) (.int .i64 0) (.int .i64 0) (.int .i64 0) (.int .i64 0) (.slice none 0 0)) vb rb ⟨ga, va, ta, oa, ca, P.gh.length, gc, P.vs.length, vc, P.ts.length, tc, P.os.length, oc, P.cd.length, cc, P.miss⟩ P (((begins P).take (i + 1)).foldl mark (List.replicate P.cd.length st0)) := by
                rw [htk, hmk2]
                refine ⟨HFAR.out _ hon2, ?_, hrw, by rw [List.length_set]; exact hlen⟩
                rw [List.length_set]
                exact hvb2
              have HON2 := hide hon2
              have HVM2 := hide hvm2
              clear hvm hon hr hlen hcs hon2 hrw hvb2 htk hvm2 hb hsz hmk2 hbl hb0
              go_wp2_with fail
              rw [putAt_eq]
              generalize (putAt W rb bn (.bool true) (.string ⟨#[]⟩) (.int .i64 0) (.int .i64 0) (.int .i64 0) (.int .i64 0) (.int .i64 0) (.int .i64 0) (.int .i64 0) (.int .i64 0) (.int .i64 0) (.int .i64 0) (.slice none 0 0)) = Wz at *
              go_roundw
              case rel => exact ⟨i + 1, by go_num, by omega, HVM2.out, HON2.out⟩
              case measure => simp [intOf]; omega
            · have hmk2 : mark (((begins P).take i).foldl mark (List.replicate P.cd.length st0)) b = (((begins P).take i).foldl mark (List.replicate P.cd.length st0)) := by simp [mark, hb0]
              have HVM2 : Hid (VMem W vb rb ⟨ga, va, ta, oa, ca, P.gh.length, gc, P.vs.length, vc, P.ts.length, tc, P.os.length, oc, P.cd.length, cc, P.miss⟩ P (((begins P).take (i + 1)).foldl mark (List.replicate P.cd.length st0))) := hide (by rw [htk, hmk2]; exact hvm)
              have HON := hide hon
              clear hvm hon htk hmk2 hb hbl
              go_wp2_with fail
              go_roundw
              case rel => exact ⟨i + 1, by go_num, by omega, HVM2.out, HON.out⟩
              case measure => simp [intOf]; omega
          · have hil : i = P.os.length + 1 := by omega
            have hvm2 : VMem W vb rb ⟨ga, va, ta, oa, ca, P.gh.length, gc, P.vs.length, vc, P.ts.length, tc, P.os.length, oc, P.cd.length, cc, P.miss⟩ P (ats0 P) := by
              rw [hil, ← HBL.out, List.take_length] at hvm
              exact hvm
            have HVM := hide hvm2
            have HON := hide hon
            clear hvm hon hvm2 hil
            have hne : w.heap.size ≠ rb := by have h1 := HP.out.lt; have h2 := HRB.out; have h3 := HLT2.out; omega
            have p5 : W.cell? ⟨w.heap.size, 5, none⟩ = some (.slice ca P.cd.length cc) := by
              rw [HON.out.cell (by have := HB5.out.size; have := HP.out.lt; exact Nat.lt_of_lt_of_le this (by omega)) (by exact hne), ((HP.out.below HB5.out HP.out.lt)).cell]; rfl
            go_wp2_with fail
            clear p5
            go_loopw [56] (fun tx W => ∃ (i : Nat) (ats : List St), tx = .int .i64 (i : Int) ∧ i ≤ P.cd.length ∧ VMem W vb rb ⟨ga, va, ta, oa, ca, P.gh.length, gc, P.vs.length, vc, P.ts.length, tc, P.os.length, oc, P.cd.length, cc, P.miss⟩ P ats ∧ Fits P ats ∧ looksV P P.cd.length 0 (ats0 P) = looksV P (P.cd.length - i) i ats ∧ Only (fun k => k = rb) w5 W) (fun tx _ => P.cd.length - (intOf tx).toNat)
            case atStart => exact ⟨0, ats0 P, rfl, Nat.zero_le _, HVM.out, ats0_fits P, by rw [Nat.sub_zero], HON.out⟩
            case round =>
              clear HVM HON
              obtain ⟨i, ats, rfl, hi, hvm, hfit, hlk, hon⟩ := hrel
              rename World => W
              have u1 := IntWalk.i64_in ((i : Int) + 1) (by omega)
              by_cases hlt : i < P.cd.length
              · obtain ⟨s, hs⟩ : ∃ s, ats[i]? = some s := ⟨_, List.getElem?_eq_getElem (by have := hvm.len; omega)⟩
                obtain ⟨x, hx⟩ : ∃ x, P.cd[i]? = some x := ⟨_, List.getElem?_eq_getElem hlt⟩
                have ex : insAt P (i : Int) = x := ins_of hx
                have es : atSt ats (i : Int) = s := by simp [atSt, hs]
                have hlook := look_i W vb rb ⟨ga, va, ta, oa, ca, P.gh.length, gc, P.vs.length, vc, P.ts.length, tc, P.os.length, oc, P.cd.length, cc, P.miss⟩ P ats hvm (fun w' ho => HFAR.out w' (hon.trans ho)) kcd (by omega) i x s hx hs (chk_of P x (KALL.out x (List.mem_of_getElem? hx))) hfit
                have hst := fun h => looks_step (P := P) (ats := ats) hlt (by rw [ex, es]; exact h)
                have hso := fun h => looks_stop (P := P) (ats := ats) hlt (by rw [ex, es]; exact h)
                rw [ex, es] at hst hso
                have hft := look_fits (x := x) hlt hs hfit
                generalize lookV P i x s ats = L at *
                obtain ⟨e, ats2⟩ := L
                simp only at hlook hst hso hft
                by_cases he : e = 0
                · subst he
                  have HLO := hide hlook
                  have HFT := hide hft.1
                  have HLK := hide (hlk.trans (hst rfl))
                  have HON := hide hon
                  clear hlook hst hso hft hlk hon hvm hfit hs hx ex es
                  go_wp2_with (go_at_call 34
                               refine HLO.out.mono ?_
                               rintro en w7 ⟨rfl, hv7, ho7⟩
                               have HV7 := hide hv7
                               have HO7 := hide ho7
                               clear hv7 ho7)
                  go_roundw
                  case rel => exact ⟨i + 1, ats2, by go_num, by omega, HV7.out, HFT.out, HLK.out, HON.out.trans HO7.out⟩
                  case measure => simp [intOf]; omega
                · have he2 : (e != 0) = true := by simpa using he
                  have hlkv := hlk.trans (hso he)
                  have hrv : runV P = (e, (i : Int), []) := by unfold runV; rw [if_neg (by simp [h0]), if_pos (by rw [hlkv]; exact he), hlkv]
                  have HRV := hide hrv
                  have HE := hide he
                  have HLO := hide hlook
                  have HON := hide hon
                  have hneC : w.heap.size + 1 ≠ rb := by have h1 := HLC2.out; have h2 := HRB2.out; omega
                  have hneF : w.heap.size + 1 + 1 ≠ rb := by have h1 := HLF2.out; have h2 := HRB2.out; omega
                  have HNC := hide hneC
                  have HNF := hide hneF
                  clear hlook hst hso hft hlk hon hvm hfit hs hx ex es hlkv hrv he hneC hneF
                  go_wp2_with (go_at_call 34
                               refine HLO.out.mono ?_
                               rintro en w7 ⟨rfl, hv7, ho7⟩
                               have kC := ((HC.out.below HB5.out HC.out.lt).only HON.out (by exact HNC.out)).only ho7 (by exact HNC.out)
                               have kF := ((HF.out.below HB5.out HF.out.lt).only HON.out (by exact HNF.out)).only ho7 (by exact HNF.out)
                               have c0 : w7.cell? ⟨w.heap.size + 1, 0, none⟩ = some (.slice none 0 0) := by rw [kC.cell]; rfl
                               have c1 : w7.cell? ⟨w.heap.size + 1, 1, none⟩ = some (.int .i64 0) := by rw [kC.cell]; rfl
                               have d0 : w7.cell? ⟨w.heap.size + 1 + 1, 0, none⟩ = some (.int .i64 0) := by rw [kF.cell]; rfl
                               have d1 : w7.cell? ⟨w.heap.size + 1 + 1, 1, none⟩ = some (.int .i64 0) := by rw [kF.cell]; rfl
                               have cf0 := kC.frozen 0
                               have cf1 := kC.frozen 1
                               have df0 := kF.frozen 0
                               have df1 := kF.frozen 1
                               have KC := hide kC
                               have KF := hide kF
                               have HO7 := hide ho7
                               clear hv7 ho7 kC kF)
                  try rw [Exit.noGoto_ret]
                  have kC8 : Blk ((((w7.setCell ⟨w.heap.size + 1, 0, none⟩ (.slice none 0 0)).setCell ⟨w.heap.size + 1, 1, none⟩ (.int .i64 0)).setCell ⟨w.heap.size + 1 + 1, 0, none⟩ (.int .i64 e)).setCell ⟨w.heap.size + 1 + 1, 1, none⟩ (.int .i64 (i : Int))) (w.heap.size + 1) 32 #[.slice none 0 0, .int .i64 0] := (((KC.out.set_ 0 _).set_ 1 _).far (by show w.heap.size + 1 ≠ w.heap.size + 1 + 1; omega) _).far (by show w.heap.size + 1 ≠ w.heap.size + 1 + 1; omega) _
                  have kF8 : Blk ((((w7.setCell ⟨w.heap.size + 1, 0, none⟩ (.slice none 0 0)).setCell ⟨w.heap.size + 1, 1, none⟩ (.int .i64 0)).setCell ⟨w.heap.size + 1 + 1, 0, none⟩ (.int .i64 e)).setCell ⟨w.heap.size + 1 + 1, 1, none⟩ (.int .i64 (i : Int))) (w.heap.size + 1 + 1) 35 #[.int .i64 e, .int .i64 (i : Int)] := (((KF.out.far (by show w.heap.size + 1 + 1 ≠ w.heap.size + 1; omega) _).far (by show w.heap.size + 1 + 1 ≠ w.heap.size + 1; omega) _).set_ 0 _).set_ 1 _
                  have hB8 : Below w.heap.size w ((((w7.setCell ⟨w.heap.size + 1, 0, none⟩ (.slice none 0 0)).setCell ⟨w.heap.size + 1, 1, none⟩ (.int .i64 0)).setCell ⟨w.heap.size + 1 + 1, 0, none⟩ (.int .i64 e)).setCell ⟨w.heap.size + 1 + 1, 1, none⟩ (.int .i64 (i : Int))) := ((((below_only HW5.out (HON.out.trans HO7.out) HRW.out HW5.out.size).setCell (by show w.heap.size ≤ w.heap.size + 1; omega) _).setCell (by show w.heap.size ≤ w.heap.size + 1; omega) _).setCell (by show w.heap.size ≤ w.heap.size + 1 + 1; omega) _).setCell (by show w.heap.size ≤ w.heap.size + 1 + 1; omega) _
                  generalize ((((w7.setCell ⟨w.heap.size + 1, 0, none⟩ (.slice none 0 0)).setCell ⟨w.heap.size + 1, 1, none⟩ (.int .i64 0)).setCell ⟨w.heap.size + 1 + 1, 0, none⟩ (.int .i64 e)).setCell ⟨w.heap.size + 1 + 1, 1, none⟩ (.int .i64 (i : Int))) = W8 at *
                  have z0 : W8.cell? ⟨w.heap.size + 1, 0, none⟩ = some (.slice none 0 0) := by rw [kC8.cell]; rfl
                  have z1 : W8.cell? ⟨w.heap.size + 1, 1, none⟩ = some (.int .i64 0) := by rw [kC8.cell]; rfl
                  have z2 : W8.cell? ⟨w.heap.size + 1 + 1, 0, none⟩ = some (.int .i64 e) := by rw [kF8.cell]; rfl
                  have z3 : W8.cell? ⟨w.heap.size + 1 + 1, 1, none⟩ = some (.int .i64 (i : Int)) := by rw [kF8.cell]; rfl
                  refine bodyPost_ret (v := .tuple #[.pointer none, .agg #[.slice none 0 0, .int .i64 0], .agg #[.int .i64 e, .int .i64 (i : Int)]]) ?_ rfl ⟨hB8, fun _ => by rw [HRV.out], fun h => absurd (by rw [HRV.out] at h; exact h) HE.out⟩
                  simp only [results, hres]
                  go_simp
              · have hil : i = P.cd.length := by omega
                have hl0 : looksV P P.cd.length 0 (ats0 P) = (0, P.cd.length, ats) := by rw [hlk, hil, Nat.sub_self]; rfl
                have hfl := flows_of KALL.out (by rw [hl0])
                have hfu := (fuel_i W vb rb ⟨ga, va, ta, oa, ca, P.gh.length, gc, P.vs.length, vc, P.ts.length, tc, P.os.length, oc, P.cd.length, cc, P.miss⟩ P ats hvm kcd hfl).mono (R' := fun en w' => ∃ of cf, en = .returned (.slice of P.cd.length cf) ∧ (∀ (i : Nat) (x : Int), (fuelK P P.cd.length)[i]? = some x → At w' of i (.int .i64 x)) ∧ Below W.heap.size W w') (fun en w' h => by
                  obtain ⟨v, rfl, ⟨of, cf, rfl, h1⟩, h2⟩ := h
                  exact ⟨of, cf, by rw [fuelK_len], h1, h2⟩)
                have hbW : Below w.heap.size w W := below_only HW5.out hon HRW.out HW5.out.size
                have HL0 := hide hl0
                have HFU := hide hfu
                have HVM := hide hvm
                have HON := hide hon
                have HBW := hide hbW
                clear hl0 hfl hfu hvm hon hlk hfit hil hbW
                go_wp2_with (go_at_call 35
                             refine HFU.out.mono ?_
                             rintro en w8 ⟨of, cf, rfl, hf, hb8⟩
                             have HFV := hide hf
                             have HB8 := hide hb8
                             clear hf hb8)
                go_step3
                go_wp2_with fail
                go_loopw [13, 73] (fun tl tx W3 => ∃ i : Nat, tx = .int .i64 (i : Int) ∧ i ≤ P.os.length + 1 ∧ W3.ownsRow w8.heap.size 3 1 tl i (ints (costsV (fuelK P P.cd.length) ((begins P).take i))) ∧ overV (fuelK P P.cd.length) (begins P) = overV (fuelK P P.cd.length) ((begins P).drop i) ∧ Below w8.heap.size w8 W3) (fun _ tx _ => P.os.length + 1 - (intOf tx).toNat)
                case atStart => exact ⟨0, rfl, Nat.zero_le _, World.ownsRow_nil _ _ _ _, rfl, Below.refl _ _⟩
                case round =>
                  obtain ⟨i, rfl, hi, hown, hov, hb3⟩ := hrel
                  rename World => W3
                  rename_i tl _
                  have u1 := IntWalk.i64_in ((i : Int) + 1) (by omega)
                  have HB3 := hide hb3
                  have HOV := hide hov
                  have HOWN := hide hown
                  clear hb3 hov hown
                  by_cases hlt : i < P.os.length + 1
                  · obtain ⟨b, hb⟩ : ∃ b, (begins P)[i]? = some b := ⟨_, List.getElem?_eq_getElem (by rw [HBL.out]; exact hlt)⟩
                    have hbl := HBI.out b (List.mem_of_getElem? hb)
                    have c0 : W3.cell? ⟨g7, i, none⟩ = some (.int .i64 b) := (HB3.out.cell (Nat.lt_of_lt_of_le (Nat.lt_of_lt_of_le HG7.out.2 HON.out.size) HB8.out.size)).trans ((HB8.out.cell (Nat.lt_of_lt_of_le HG7.out.2 HON.out.size)).trans ((HON.out.cell (by exact HG7.out.2) (by exact H7.out)).trans (HROW.out i b hb)))
                    have htk := costs_take (f := (fuelK P P.cd.length)) hb
                    have hdr := over_drop (f := (fuelK P P.cd.length)) hb
                    by_cases hb0 : b < 0
                    · rw [if_pos hb0] at htk
                      rw [if_neg (by omega)] at hdr
                      have HTK := hide htk
                      have HDR := hide hdr
                      clear htk hdr hb
                      go_wp2_with (at_builtin
                                   refine wpList_append_own _ rfl (.tmp 79) (.tmp 80) 25 rfl w8.heap.size 3 i3 (.int .i64 0) 1 8 Try.underlying25 hi3 hz0 hz1 hz2 rfl (by decide) _ _ _ rfl (HOWN.out.alloc _) ⟨W3.heap.size, 0, none⟩ 1 1 [.int .i64 0] rfl rfl (one_cell W3 _) (by simp [Value.oneCell']) (by unfold maxLen; omega) (by omega) (by have := HB3.out.size; simp; omega) ?_
                                   intro v' w10 hown' hgrow _
                                   have HOWN2 := hide hown'
                                   have HG2 := hide hgrow
                                   clear hown' hgrow)
                      go_roundw
                      case rel => exact ⟨i + 1, by go_num, by omega, by rw [HTK.out]; exact HOWN2.out, HOV.out.trans HDR.out, (HB3.out.alloc HB3.out.size _).trans (below_grow HG2.out (fun k hk => (HOWN.out.lt k hk).1) (by have := HB3.out.size; simp; omega))⟩
                      case measure => simp [intOf]; omega
                    · rw [if_neg hb0] at htk
                      obtain ⟨bn, rfl⟩ := Int.eq_ofNat_of_zero_le (show 0 ≤ b by omega)
                      have hbn : bn < P.cd.length := by omega
                      obtain ⟨x, hx⟩ : ∃ x, (fuelK P P.cd.length)[bn]? = some x := ⟨_, List.getElem?_eq_getElem (by rw [fuelK_len]; exact hbn)⟩
                      obtain ⟨gf, rfl, hgf, hcf⟩ := HFV.out bn x hx
                      have hfx : fAt (fuelK P P.cd.length) (bn : Int) = x := by simp [fAt, hx]
                      rw [hfx] at htk hdr
                      have cf : W3.cell? ⟨gf, bn, none⟩ = some (.int .i64 x) := (HB3.out.cell (by exact hgf)).trans hcf
                      by_cases hbig : 1152921504606846976 < x
                      · rw [if_pos ⟨by omega, hbig⟩] at hdr
                        have hrv := runV_over h0 HL0.out (HOV.out.trans hdr)
                        have HRV := hide hrv
                        have hneC : w.heap.size + 1 ≠ rb := by have h1 := HLC2.out; have h2 := HRB2.out; omega
                        have hneF : w.heap.size + 1 + 1 ≠ rb := by have h1 := HLF2.out; have h2 := HRB2.out; omega
                        have KCW := (HC.out.below HB5.out HC.out.lt).only HON.out (by exact hneC)
                        have KFW := (HF.out.below HB5.out HF.out.lt).only HON.out (by exact hneF)
                        have KC8 := KCW.below HB8.out KCW.lt
                        have KF8 := KFW.below HB8.out KFW.lt
                        have kC := KC8.below HB3.out KC8.lt
                        have kF := KF8.below HB3.out KF8.lt
                        have c0 : W3.cell? ⟨w.heap.size + 1, 0, none⟩ = some (.slice none 0 0) := by rw [kC.cell]; rfl
                        have c1 : W3.cell? ⟨w.heap.size + 1, 1, none⟩ = some (.int .i64 0) := by rw [kC.cell]; rfl
                        have d0 : W3.cell? ⟨w.heap.size + 1 + 1, 0, none⟩ = some (.int .i64 0) := by rw [kF.cell]; rfl
                        have d1 : W3.cell? ⟨w.heap.size + 1 + 1, 1, none⟩ = some (.int .i64 0) := by rw [kF.cell]; rfl
                        have cf0 := kC.frozen 0
                        have cf1 := kC.frozen 1
                        have df0 := kF.frozen 0
                        have df1 := kF.frozen 1
                        have KC := hide kC
                        have KF := hide kF
                        clear hrv hneC hneF KCW KFW KC8 KF8 kC kF htk hdr hx hcf hfx hb hbl
                        go_wp2_with fail
                        try rw [Exit.noGoto_ret]
                        have kC8 : Blk ((((W3.setCell ⟨w.heap.size + 1, 0, none⟩ (.slice none 0 0)).setCell ⟨w.heap.size + 1, 1, none⟩ (.int .i64 0)).setCell ⟨w.heap.size + 1 + 1, 0, none⟩ (.int .i64 97)).setCell ⟨w.heap.size + 1 + 1, 1, none⟩ (.int .i64 (bn : Int))) (w.heap.size + 1) 32 #[.slice none 0 0, .int .i64 0] := (((KC.out.set_ 0 _).set_ 1 _).far (by show w.heap.size + 1 ≠ w.heap.size + 1 + 1; omega) _).far (by show w.heap.size + 1 ≠ w.heap.size + 1 + 1; omega) _
                        have kF8 : Blk ((((W3.setCell ⟨w.heap.size + 1, 0, none⟩ (.slice none 0 0)).setCell ⟨w.heap.size + 1, 1, none⟩ (.int .i64 0)).setCell ⟨w.heap.size + 1 + 1, 0, none⟩ (.int .i64 97)).setCell ⟨w.heap.size + 1 + 1, 1, none⟩ (.int .i64 (bn : Int))) (w.heap.size + 1 + 1) 35 #[.int .i64 97, .int .i64 (bn : Int)] := (((KF.out.far (by show w.heap.size + 1 + 1 ≠ w.heap.size + 1; omega) _).far (by show w.heap.size + 1 + 1 ≠ w.heap.size + 1; omega) _).set_ 0 _).set_ 1 _
                        have hB8 : Below w.heap.size w ((((W3.setCell ⟨w.heap.size + 1, 0, none⟩ (.slice none 0 0)).setCell ⟨w.heap.size + 1, 1, none⟩ (.int .i64 0)).setCell ⟨w.heap.size + 1 + 1, 0, none⟩ (.int .i64 97)).setCell ⟨w.heap.size + 1 + 1, 1, none⟩ (.int .i64 (bn : Int))) := (((((HBW.out.trans (HB8.out.mono HBW.out.size)).trans (HB3.out.mono (Nat.le_trans HBW.out.size HB8.out.size))).setCell (by show w.heap.size ≤ w.heap.size + 1; omega) _).setCell (by show w.heap.size ≤ w.heap.size + 1; omega) _).setCell (by show w.heap.size ≤ w.heap.size + 1 + 1; omega) _).setCell (by show w.heap.size ≤ w.heap.size + 1 + 1; omega) _
                        generalize ((((W3.setCell ⟨w.heap.size + 1, 0, none⟩ (.slice none 0 0)).setCell ⟨w.heap.size + 1, 1, none⟩ (.int .i64 0)).setCell ⟨w.heap.size + 1 + 1, 0, none⟩ (.int .i64 97)).setCell ⟨w.heap.size + 1 + 1, 1, none⟩ (.int .i64 (bn : Int))) = W8 at *
                        have z0 : W8.cell? ⟨w.heap.size + 1, 0, none⟩ = some (.slice none 0 0) := by rw [kC8.cell]; rfl
                        have z1 : W8.cell? ⟨w.heap.size + 1, 1, none⟩ = some (.int .i64 0) := by rw [kC8.cell]; rfl
                        have z2 : W8.cell? ⟨w.heap.size + 1 + 1, 0, none⟩ = some (.int .i64 97) := by rw [kF8.cell]; rfl
                        have z3 : W8.cell? ⟨w.heap.size + 1 + 1, 1, none⟩ = some (.int .i64 (bn : Int)) := by rw [kF8.cell]; rfl
                        refine bodyPost_ret (v := .tuple #[.pointer none, .agg #[.slice none 0 0, .int .i64 0], .agg #[.int .i64 97, .int .i64 (bn : Int)]]) ?_ rfl ⟨hB8, fun _ => by rw [HRV.out], fun h => by rw [HRV.out] at h; simp at h⟩
                        simp only [results, hres]
                        go_simp
                      · rw [if_neg (fun h => hbig h.2)] at hdr
                        have HTK := hide htk
                        have HDR := hide hdr
                        clear htk hdr hb hx hcf hfx hbl
                        go_wp2_with (at_builtin
                                     refine wpList_append_own _ rfl (.tmp 90) (.tmp 95) 25 rfl w8.heap.size 3 i3 (.int .i64 0) 1 8 Try.underlying25 hi3 hz0 hz1 hz2 rfl (by decide) _ _ _ rfl (HOWN.out.alloc _) ⟨W3.heap.size, 0, none⟩ 1 1 [.int .i64 x] rfl rfl (one_cell W3 _) (by simp [Value.oneCell']) (by unfold maxLen; omega) (by omega) (by have := HB3.out.size; simp; omega) ?_
                                     intro v' w10 hown' hgrow _
                                     have HOWN2 := hide hown'
                                     have HG2 := hide hgrow
                                     clear hown' hgrow)
                        go_roundw
                        case rel => exact ⟨i + 1, by go_num, by omega, by rw [HTK.out]; exact HOWN2.out, HOV.out.trans HDR.out, (HB3.out.alloc HB3.out.size _).trans (below_grow HG2.out (fun k hk => (HOWN.out.lt k hk).1) (by have := HB3.out.size; simp; omega))⟩
                        case measure => simp [intOf]; omega
                  · have hil : i = P.os.length + 1 := by omega
                    have htk : (begins P).take i = begins P := by rw [hil, ← HBL.out, List.take_length]
                    have hrv : runV P = (0, 0, ats) := runV_ok h0 HL0.out (HOV.out.trans (by rw [List.drop_eq_nil_of_le (by rw [HBL.out, hil]; exact Nat.le_refl _)]; rfl))
                    have hown := HOWN.out
                    rw [htk] at hown
                    obtain ⟨g, cap, rfl, hcap, hcm⟩ := own_form hown (by omega)
                    obtain ⟨cs, hcs⟩ := own_blk hown rfl
                    have hcell : ∀ (j : Nat) (x : Int), (costsV (fuelK P P.cd.length) (begins P))[j]? = some x → cs[j]? = some (.int .i64 x) := fun j x hx => by
                      have hj : j < P.os.length + 1 := by have := (List.getElem?_eq_some_iff.1 hx).1; simpa [costsV, begins] using this
                      rw [← hcs.cell, hown.cellAt j (by omega), ints, List.getElem?_map, hx]; rfl
                    have hlast : (costsV (fuelK P P.cd.length) (begins P))[P.os.length]? = some (fAt (costsV (fuelK P P.cd.length) [P.miss]) 0) := by simp [costsV, begins, fAt]
                    have hfront : ∀ (j : Nat) (x : Int), (costsV (fuelK P P.cd.length) P.os)[j]? = some x → (costsV (fuelK P P.cd.length) (begins P))[j]? = some x := fun j x hx => by
                      have hj := (List.getElem?_eq_some_iff.1 hx).1
                      unfold costsV begins at *
                      rw [List.map_append, List.getElem?_append_left hj]; exact hx
                    have hgl := hown.lt g rfl
                    have cl : W3.cell? ⟨g, P.os.length, none⟩ = some (.int .i64 (fAt (costsV (fuelK P P.cd.length) [P.miss]) 0)) := by rw [hcs.cell]; exact hcell _ _ hlast
                    generalize hmc : fAt (costsV (fuelK P P.cd.length) [P.miss]) 0 = mc at *
                    have hneC : w.heap.size + 1 ≠ rb := by have h1 := HLC2.out; have h2 := HRB2.out; omega
                    have hneF : w.heap.size + 1 + 1 ≠ rb := by have h1 := HLF2.out; have h2 := HRB2.out; omega
                    have KCW := (HC.out.below HB5.out HC.out.lt).only HON.out (by exact hneC)
                    have KFW := (HF.out.below HB5.out HF.out.lt).only HON.out (by exact hneF)
                    have KC8 := KCW.below HB8.out KCW.lt
                    have KF8 := KFW.below HB8.out KFW.lt
                    have kC := KC8.below HB3.out KC8.lt
                    have kF := KF8.below HB3.out KF8.lt
                    have hBW3 : Below w.heap.size w W3 := (HBW.out.trans (HB8.out.mono HBW.out.size)).trans (HB3.out.mono (Nat.le_trans HBW.out.size HB8.out.size))
                    have hWW3 : Below W.heap.size W W3 := HB8.out.trans (HB3.out.mono HB8.out.size)
                    have kP5 := HP.out.below HB5.out HP.out.lt
                    have kPW := kP5.only HON.out (by exact hne)
                    have kP8 := kPW.below HB8.out kPW.lt
                    have kP3 := kP8.below HB3.out kP8.lt
                    have q3 : W3.drew.cell? ⟨w.heap.size, 3, none⟩ = some (.slice oa P.os.length oc) := by rw [kP3.drew.cell]; rfl
                    have cl2 : W3.drew.cell? ⟨g, P.os.length, none⟩ = some (.int .i64 mc) := cl
                    have c0 : W3.drew.cell? ⟨w.heap.size + 1, 0, none⟩ = some (.slice none 0 0) := by rw [kC.drew.cell]; rfl
                    have c1 : W3.drew.cell? ⟨w.heap.size + 1, 1, none⟩ = some (.int .i64 0) := by rw [kC.drew.cell]; rfl
                    have d0 : W3.drew.cell? ⟨w.heap.size + 1 + 1, 0, none⟩ = some (.int .i64 0) := by rw [kF.drew.cell]; rfl
                    have d1 : W3.drew.cell? ⟨w.heap.size + 1 + 1, 1, none⟩ = some (.int .i64 0) := by rw [kF.drew.cell]; rfl
                    have cf0 := kC.drew.frozen 0
                    have cf1 := kC.drew.frozen 1
                    have df0 := kF.drew.frozen 0
                    have df1 := kF.drew.frozen 1
                    have hcap2 : P.os.length ≤ cap := by omega
                    have c0n : W3.cell? ⟨w.heap.size + 1, 0, none⟩ = some (.slice none 0 0) := c0
                    have c1n : W3.cell? ⟨w.heap.size + 1, 1, none⟩ = some (.int .i64 0) := c1
                    have d0n : W3.cell? ⟨w.heap.size + 1 + 1, 0, none⟩ = some (.int .i64 0) := d0
                    have d1n : W3.cell? ⟨w.heap.size + 1 + 1, 1, none⟩ = some (.int .i64 0) := d1
                    have cf0n := kC.frozen 0
                    have cf1n := kC.frozen 1
                    have df0n := kF.frozen 0
                    have df1n := kF.frozen 1
                    have KC := hide kC
                    have KF := hide kF
                    have HCS := hide hcs
                    have HCE := hide (fun j x hx => hcell j x (hfront j x hx))
                    have HRV := hide hrv
                    have HBW3 := hide hBW3
                    have HWW3 := hide hWW3
                    have HNC := hide hneC
                    have HNF := hide hneF
                    have HKCW := hide KCW
                    have HKFW := hide KFW
                    have HGL := hide hgl
                    have HGW := hide (Nat.le_trans (Nat.le_trans HBW.out.size HB8.out.size) hgl.1)
                    have HFAR0 := hide (fun (X : World) (hX : Below w.heap.size w X) => HM.out.below hX)
                    clear hrv hneC hneF KCW KFW KC8 KF8 kC kF htk hown hcs hcell hlast hfront hil hBW3 hWW3 kP5 kPW kP8 kP3 cl hgl
                    go_upto_region 30 with fail
                    go_region
                    go_wp2_with fail
                    try rw [Exit.noGoto_ret]
                    have kC8 : Blk ((((W3.setCell ⟨w.heap.size + 1, 0, none⟩ (.slice (some ⟨g, 0, none⟩) P.os.length P.os.length)).setCell ⟨w.heap.size + 1, 1, none⟩ (.int .i64 mc)).setCell ⟨w.heap.size + 1 + 1, 0, none⟩ (.int .i64 0)).setCell ⟨w.heap.size + 1 + 1, 1, none⟩ (.int .i64 0)) (w.heap.size + 1) 32 #[.slice (some ⟨g, 0, none⟩) P.os.length P.os.length, .int .i64 mc] := (((KC.out.set_ 0 _).set_ 1 _).far (by show w.heap.size + 1 ≠ w.heap.size + 1 + 1; omega) _).far (by show w.heap.size + 1 ≠ w.heap.size + 1 + 1; omega) _
                    have kF8 : Blk ((((W3.setCell ⟨w.heap.size + 1, 0, none⟩ (.slice (some ⟨g, 0, none⟩) P.os.length P.os.length)).setCell ⟨w.heap.size + 1, 1, none⟩ (.int .i64 mc)).setCell ⟨w.heap.size + 1 + 1, 0, none⟩ (.int .i64 0)).setCell ⟨w.heap.size + 1 + 1, 1, none⟩ (.int .i64 0)) (w.heap.size + 1 + 1) 35 #[.int .i64 0, .int .i64 0] := (((KF.out.far (by show w.heap.size + 1 + 1 ≠ w.heap.size + 1; omega) _).far (by show w.heap.size + 1 + 1 ≠ w.heap.size + 1; omega) _).set_ 0 _).set_ 1 _
                    have hB8 : Below w.heap.size w ((((W3.setCell ⟨w.heap.size + 1, 0, none⟩ (.slice (some ⟨g, 0, none⟩) P.os.length P.os.length)).setCell ⟨w.heap.size + 1, 1, none⟩ (.int .i64 mc)).setCell ⟨w.heap.size + 1 + 1, 0, none⟩ (.int .i64 0)).setCell ⟨w.heap.size + 1 + 1, 1, none⟩ (.int .i64 0)) := (((HBW3.out.setCell (by show w.heap.size ≤ w.heap.size + 1; omega) _).setCell (by show w.heap.size ≤ w.heap.size + 1; omega) _).setCell (by show w.heap.size ≤ w.heap.size + 1 + 1; omega) _).setCell (by show w.heap.size ≤ w.heap.size + 1 + 1; omega) _
                    have hO8 : Only (fun k => k = w.heap.size + 1 ∨ k = w.heap.size + 1 + 1) W ((((W3.setCell ⟨w.heap.size + 1, 0, none⟩ (.slice (some ⟨g, 0, none⟩) P.os.length P.os.length)).setCell ⟨w.heap.size + 1, 1, none⟩ (.int .i64 mc)).setCell ⟨w.heap.size + 1 + 1, 0, none⟩ (.int .i64 0)).setCell ⟨w.heap.size + 1 + 1, 1, none⟩ (.int .i64 0)) := ((((Only.of_new HWW3.out).setCell (.inl (.inl rfl)) _).setCell (.inl (.inl rfl)) _).setCell (.inl (.inr rfl)) _).setCell (.inl (.inr rfl)) _
                    have hG8 : Blk ((((W3.setCell ⟨w.heap.size + 1, 0, none⟩ (.slice (some ⟨g, 0, none⟩) P.os.length P.os.length)).setCell ⟨w.heap.size + 1, 1, none⟩ (.int .i64 mc)).setCell ⟨w.heap.size + 1 + 1, 0, none⟩ (.int .i64 0)).setCell ⟨w.heap.size + 1 + 1, 1, none⟩ (.int .i64 0)) g 3 cs := ((((HCS.out.far (p := ⟨w.heap.size + 1, 0, none⟩) (by show g ≠ w.heap.size + 1; exact HCS.out.ne_ KC.out (by decide)) _).far (p := ⟨w.heap.size + 1, 1, none⟩) (by show g ≠ w.heap.size + 1; exact HCS.out.ne_ KC.out (by decide)) _).far (p := ⟨w.heap.size + 1 + 1, 0, none⟩) (by show g ≠ w.heap.size + 1 + 1; exact HCS.out.ne_ KF.out (by decide)) _).far (p := ⟨w.heap.size + 1 + 1, 1, none⟩) (by show g ≠ w.heap.size + 1 + 1; exact HCS.out.ne_ KF.out (by decide)) _)
                    generalize ((((W3.setCell ⟨w.heap.size + 1, 0, none⟩ (.slice (some ⟨g, 0, none⟩) P.os.length P.os.length)).setCell ⟨w.heap.size + 1, 1, none⟩ (.int .i64 mc)).setCell ⟨w.heap.size + 1 + 1, 0, none⟩ (.int .i64 0)).setCell ⟨w.heap.size + 1 + 1, 1, none⟩ (.int .i64 0)) = W8 at *
                    have hVM8 := HVM.out.only2 hO8.drew HKCW.out HKFW.out (HFAR0.out _ hB8.drew)
                    have z0 : W8.drew.cell? ⟨w.heap.size + 1, 0, none⟩ = some (.slice (some ⟨g, 0, none⟩) P.os.length P.os.length) := by rw [kC8.drew.cell]; rfl
                    have z1 : W8.drew.cell? ⟨w.heap.size + 1, 1, none⟩ = some (.int .i64 mc) := by rw [kC8.drew.cell]; rfl
                    have z2 : W8.drew.cell? ⟨w.heap.size + 1 + 1, 0, none⟩ = some (.int .i64 0) := by rw [kF8.drew.cell]; rfl
                    have z3 : W8.drew.cell? ⟨w.heap.size + 1 + 1, 1, none⟩ = some (.int .i64 0) := by rw [kF8.drew.cell]; rfl
                    have zn0 : W8.cell? ⟨w.heap.size + 1, 0, none⟩ = some (.slice (some ⟨g, 0, none⟩) P.os.length P.os.length) := z0
                    have zn1 : W8.cell? ⟨w.heap.size + 1, 1, none⟩ = some (.int .i64 mc) := z1
                    have zn2 : W8.cell? ⟨w.heap.size + 1 + 1, 0, none⟩ = some (.int .i64 0) := z2
                    have zn3 : W8.cell? ⟨w.heap.size + 1 + 1, 1, none⟩ = some (.int .i64 0) := z3
                    refine bodyPost_ret (v := .tuple #[.pointer (some ⟨vb, 0, none⟩), .agg #[.slice (some ⟨g, 0, none⟩) P.os.length P.os.length, .int .i64 mc], .agg #[.int .i64 0, .int .i64 0]]) ?_ rfl ⟨hB8.drew, fun h => absurd (by rw [HRV.out]) h, fun _ => ⟨vb, rb, g, cs, by rw [hmc], by rw [HRV.out]; exact hVM8, HVW.out, HRW.out, HGW.out, hG8.drew, HCE.out⟩⟩
                    simp only [results, hres]
                    go_simp
  · have hrv : runV P = ((checkV P : Int), 0, []) := by unfold runV; rw [if_pos h0]
    have he : ((checkV P : Nat) : Int) ≠ 0 := by omega
    generalize ((checkV P : Nat) : Int) = e at *
    have he2 : (e != 0) = true := by simpa using he
    have HRV := hide hrv
    have HE := hide he
    clear hrv he h0
    go_enter Try.func26, Try.ntmps26
    go_wp2_with fail
    go_step3
    go_wp2_with (go_at_call 32
                 refine HK.out.mono ?_
                 rintro en w2 ⟨rfl, hb2⟩
                 have HP := hide (HP.out.below hb2 HP.out.lt)
                 have HC := hide (HC.out.below hb2 HC.out.lt)
                 have HF := hide (HF.out.below hb2 HF.out.lt)
                 have HB := hide (HB.out.trans (hb2.mono HB.out.size))
                 have p0 : w2.cell? ⟨w.heap.size, 0, none⟩ = some (.slice ga P.gh.length gc) := by rw [HP.out.cell]; rfl
                 have p1 : w2.cell? ⟨w.heap.size, 1, none⟩ = some (.slice va P.vs.length vc) := by rw [HP.out.cell]; rfl
                 have p2 : w2.cell? ⟨w.heap.size, 2, none⟩ = some (.slice ta P.ts.length tc) := by rw [HP.out.cell]; rfl
                 have p3 : w2.cell? ⟨w.heap.size, 3, none⟩ = some (.slice oa P.os.length oc) := by rw [HP.out.cell]; rfl
                 have p4 : w2.cell? ⟨w.heap.size, 4, none⟩ = some (.int .i64 P.miss) := by rw [HP.out.cell]; rfl
                 have p5 : w2.cell? ⟨w.heap.size, 5, none⟩ = some (.slice ca P.cd.length cc) := by rw [HP.out.cell]; rfl
                 have c0 : w2.cell? ⟨w.heap.size + 1, 0, none⟩ = some (.slice none 0 0) := by rw [HC.out.cell]; rfl
                 have cf0 := HC.out.frozen 0
                 have c1 : w2.cell? ⟨w.heap.size + 1, 1, none⟩ = some (.int .i64 0) := by rw [HC.out.cell]; rfl
                 have cf1 := HC.out.frozen 1
                 have f0 : w2.cell? ⟨w.heap.size + 1 + 1, 0, none⟩ = some (.int .i64 0) := by rw [HF.out.cell]; rfl
                 have ff0 := HF.out.frozen 0
                 have f1 : w2.cell? ⟨w.heap.size + 1 + 1, 1, none⟩ = some (.int .i64 0) := by rw [HF.out.cell]; rfl
                 have ff1 := HF.out.frozen 1
                 clear hb2)
    try rw [Exit.noGoto_ret]
    have kC8 : Blk ((((w2.setCell ⟨w.heap.size + 1, 0, none⟩ (.slice none 0 0)).setCell ⟨w.heap.size + 1, 1, none⟩ (.int .i64 0)).setCell ⟨w.heap.size + 1 + 1, 0, none⟩ (.int .i64 e)).setCell ⟨w.heap.size + 1 + 1, 1, none⟩ (.int .i64 0)) (w.heap.size + 1) 32 #[.slice none 0 0, .int .i64 0] := (((HC.out.set_ 0 _).set_ 1 _).far (by show w.heap.size + 1 ≠ w.heap.size + 1 + 1; omega) _).far (by show w.heap.size + 1 ≠ w.heap.size + 1 + 1; omega) _
    have kF8 : Blk ((((w2.setCell ⟨w.heap.size + 1, 0, none⟩ (.slice none 0 0)).setCell ⟨w.heap.size + 1, 1, none⟩ (.int .i64 0)).setCell ⟨w.heap.size + 1 + 1, 0, none⟩ (.int .i64 e)).setCell ⟨w.heap.size + 1 + 1, 1, none⟩ (.int .i64 0)) (w.heap.size + 1 + 1) 35 #[.int .i64 e, .int .i64 0] := (((HF.out.far (by show w.heap.size + 1 + 1 ≠ w.heap.size + 1; omega) _).far (by show w.heap.size + 1 + 1 ≠ w.heap.size + 1; omega) _).set_ 0 _).set_ 1 _
    have hB8 : Below w.heap.size w ((((w2.setCell ⟨w.heap.size + 1, 0, none⟩ (.slice none 0 0)).setCell ⟨w.heap.size + 1, 1, none⟩ (.int .i64 0)).setCell ⟨w.heap.size + 1 + 1, 0, none⟩ (.int .i64 e)).setCell ⟨w.heap.size + 1 + 1, 1, none⟩ (.int .i64 0)) := (((HB.out.setCell (by show w.heap.size ≤ w.heap.size + 1; omega) _).setCell (by show w.heap.size ≤ w.heap.size + 1; omega) _).setCell (by show w.heap.size ≤ w.heap.size + 1 + 1; omega) _).setCell (by show w.heap.size ≤ w.heap.size + 1 + 1; omega) _
    generalize ((((w2.setCell ⟨w.heap.size + 1, 0, none⟩ (.slice none 0 0)).setCell ⟨w.heap.size + 1, 1, none⟩ (.int .i64 0)).setCell ⟨w.heap.size + 1 + 1, 0, none⟩ (.int .i64 e)).setCell ⟨w.heap.size + 1 + 1, 1, none⟩ (.int .i64 0)) = W8 at *
    have z0 : W8.cell? ⟨w.heap.size + 1, 0, none⟩ = some (.slice none 0 0) := by rw [kC8.cell]; rfl
    have z1 : W8.cell? ⟨w.heap.size + 1, 1, none⟩ = some (.int .i64 0) := by rw [kC8.cell]; rfl
    have z2 : W8.cell? ⟨w.heap.size + 1 + 1, 0, none⟩ = some (.int .i64 e) := by rw [kF8.cell]; rfl
    have z3 : W8.cell? ⟨w.heap.size + 1 + 1, 1, none⟩ = some (.int .i64 0) := by rw [kF8.cell]; rfl
    refine bodyPost_ret (v := .tuple #[.pointer none, .agg #[.slice none 0 0, .int .i64 0], .agg #[.int .i64 e, .int .i64 0]]) ?_ rfl ⟨hB8, fun _ => by rw [HRV.out], fun h => absurd (by rw [HRV.out] at h; exact h) HE.out⟩
    simp only [results, hres]
    go_simp
end Go.Proofs.Ytjflllfkgbhemaa
