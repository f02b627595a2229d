/- The walk of the law's 'whole': all nodes are free or in one list, and all calls say the same. Conditions: the bounds that are named. -/
import Derived.Test.YtbjmmfoklnhiiaaW16
namespace Go.Proofs.Ytbjmmfoklnhiiaa
open Go.RowKit

set_option maxRecDepth 100000 in
set_option maxHeartbeats 2000000 in
theorem whole_i (w : World) (f : Fp) (s : ASt Int) (A : Ab Int) (h : AMem Ki w f s) (hr : Rep s A) (hn : A.most ≤ 2000) :
    Calls Try.prog 13 #[.pointer (some ⟨f.ab, 0, none⟩), .int .i64 (A.most : Int), .int .i64 (A.L.length : Int)] w fun en w' => en = .returned (.bool true) ∧ Below w.heap.size w w' := by
  obtain ⟨i0, hi0, hz0, hz1, hz2⟩ := info_parts info3
  have hmk := fun W => run_make_rowN (P := Try.prog) 35 3 i0 _ Try.underlying35 hi0 hz0 .i64 .i64 A.most A.most (Nat.le_refl _) (by rw [hz2]; omega) (by omega) W
  simp only [hz1, Value.cells, arr_made] at hmk
  have hL256 := hr.l256
  have hm22 := hr.m22
  have hlts : ∀ k, f.has k → k < w.heap.size := fun k hk => by have := h.ablt; have := h.gblt; have := h.lblt; rcases hk with e | e | e <;> omega
  have HLT := hide hlts
  have HM := hide h
  have HR := hide hr
  clear h hr hlts hz0 hz1 hz2 hi0
  go_enter Try.func13, Try.ntmps13
  go_wp2
  go_loopw [8, 9] (fun tin ti wr => ∃ (k : Nat) (mk : Nat → Int), k ≤ A.L.length ∧ tin = .int .i64 (upto A.L k : Int) ∧ ti = .int .i64 (k : Int) ∧ Marked A mk k 0 ∧ Blk wr w.heap.size 3 (arr mk A.most) ∧ Below w.heap.size w wr)
    (fun _ ti _ => A.L.length - (intOf ti).toNat)
  case atStart =>
    exact ⟨0, _, Nat.zero_le _, rfl, rfl, Marked.zero A, Blk.new _ _ _, (Below.refl _ _).alloc (Nat.le_refl _) _⟩
  case round =>
    obtain ⟨k, mk, hk, rfl, rfl, hmk, hblk, hB⟩ := hrel
    by_cases hlt : k < A.L.length
    · have hi : A.L[k]? = some A.L[k] := List.getElem?_eq_getElem hlt
      generalize A.L[k] = l at hi
      obtain ⟨t0, t1⟩ := tell_at (A := A) hi
      have hT0 := HR.out.told (k : Int) 0
      have hT1 := HR.out.told (k : Int) 1
      rw [t0] at hT0
      rw [t1] at hT1
      have hms : s.made ≤ 4194304 := by have := HR.out.made; have := HR.out.mm; omega
      have hN : ∀ (W : World), Below w.heap.size w W → Calls Try.prog 26 #[.pointer (some ⟨f.ab, 0, none⟩), .int .i64 (k : Int), .int .i64 0] W fun en w' => ∃ a c, en = .returned (.slice a l.length c) ∧ w'.ownsRow W.heap.size 3 1 (.slice a l.length c) l.length (nums l) ∧ Below W.heap.size W w' := by
        intro W hW
        refine (nodes_i W f s (HM.out.below hW HLT.out) k 0 l hT0 hms).mono ?_
        rintro en w' ⟨v, rfl, ho, hb⟩
        obtain ⟨a, c, rfl⟩ := own_len ho
        exact ⟨a, c, rfl, ho, hb⟩
      have hN' : ∀ (W : World), Below w.heap.size w W → Calls Try.prog 26 #[.pointer (some ⟨f.ab, 0, none⟩), .int .i64 (k : Int), .int .i64 1] W fun en w' => ∃ a c, en = .returned (.slice a l.length c) ∧ w'.ownsRow W.heap.size 3 1 (.slice a l.length c) l.length (nums l.reverse) ∧ Below W.heap.size W w' := by
        intro W hW
        refine (nodes_i W f s (HM.out.below hW HLT.out) k 1 l.reverse hT1 hms).mono ?_
        rintro en w' ⟨v, rfl, ho, hb⟩
        rw [List.length_reverse] at ho
        obtain ⟨a, c, rfl⟩ := own_len ho
        exact ⟨a, c, rfl, ho, hb⟩
      have hlen : ∀ (W : World), Below w.heap.size w W → Calls Try.prog 32 #[.pointer (some ⟨f.ab, 0, none⟩), .int .i64 (k : Int)] W fun en w' => en = .returned (.int .i64 (l.length : Int)) ∧ W = w' := by
        intro W hW
        have := len_i W f s (HM.out.below hW HLT.out) k
        rw [HR.out.len_ hi] at this
        exact this
      have hp0 : ∀ (W : World), Below w.heap.size w W → Calls Try.prog 35 #[.pointer (some ⟨f.ab, 0, none⟩), .int .i64 (k : Int), .int .i64 0] W fun en w' => en = .returned (.tuple #[.int .i64 (max (nodeAt l 0) 0), .bool (decide (0 < l.length))]) ∧ W = w' := by
        intro W hW
        have := peek_i W f s (HM.out.below hW HLT.out) k 0
        obtain ⟨q1, q2⟩ := HR.out.peek hi 0 (.inl rfl)
        rw [q1, q2, t0] at this
        exact this
      have hp1 : ∀ (W : World), Below w.heap.size w W → Calls Try.prog 35 #[.pointer (some ⟨f.ab, 0, none⟩), .int .i64 (k : Int), .int .i64 1] W fun en w' => en = .returned (.tuple #[.int .i64 (max (nodeAt l.reverse 0) 0), .bool (decide (0 < l.length))]) ∧ W = w' := by
        intro W hW
        have := peek_i W f s (HM.out.below hW HLT.out) k 1
        obtain ⟨q1, q2⟩ := HR.out.peek hi 1 (.inr rfl)
        rw [q1, q2, t1, List.length_reverse] at this
        exact this
      have hls : ∀ (W : World), Below w.heap.size w W → ∀ {j : Nat} {y : Nat × Int}, l[j]? = some y → Calls Try.prog 36 #[.pointer (some ⟨f.ab, 0, none⟩), .int .i64 (y.1 : Int)] W fun en w' => en = .returned (.tuple #[.int .i64 (k : Int), .bool true]) ∧ W = w' := by
        intro W hW j y hj
        have := list_i W f s (HM.out.below hW HLT.out) y.1
        rw [(HR.out.list hi hj).1, (HR.out.list hi hj).2] at this
        exact this
      have hnx1 : ∀ (W : World), Below w.heap.size w W → ∀ {j : Nat} {y : Nat × Int}, l[j]? = some y → Calls Try.prog 37 #[.pointer (some ⟨f.ab, 0, none⟩), .int .i64 (y.1 : Int), .int .i64 1] W fun en w' => en = .returned (.tuple #[.int .i64 (max (nodeAt l (j + 1)) 0), .bool (decide (j + 1 < l.length))]) ∧ W = w' := by
        intro W hW j y hj
        have := next_i W f s (HM.out.below hW HLT.out) y.1 1
        obtain ⟨q1, q2, _⟩ := HR.out.next hi hj
        rw [q1, q2] at this
        exact this
      have hnx0 : ∀ (W : World), Below w.heap.size w W → ∀ {j : Nat} {y : Nat × Int}, l[j]? = some y → Calls Try.prog 37 #[.pointer (some ⟨f.ab, 0, none⟩), .int .i64 (y.1 : Int), .int .i64 0] W fun en w' => en = .returned (.tuple #[.int .i64 (max (nb l false j) 0), .bool (decide (0 < j))]) ∧ W = w' := by
        intro W hW j y hj
        have := next_i W f s (HM.out.below hW HLT.out) y.1 0
        obtain ⟨_, _, q1, q2⟩ := HR.out.next hi hj
        rw [q1, q2] at this
        exact this
      have HLS := hide hls
      have HNX1 := hide hnx1
      have HNX0 := hide hnx0
      clear hls hnx1 hnx0
      have hlb : l.length ≤ 2000 := by have := total_ge hi; have := HR.out.count; have := HR.out.mm; omega
      have HN := hide hN
      have HN' := hide hN'
      have HLEN := hide hlen
      have HP0 := hide hp0
      have HP1 := hide hp1
      have HMK := hide hmk
      have HBK := hide hblk
      have HB := hide hB
      have HT0 := hide t0
      have HI := hide hi
      have tok0 : True := trivial
      have tok1 : True := trivial
      clear hmk hblk hB hN hN' hlen hp0 hp1 hT0 hT1 t0 t1 hi
      by_cases hl0 : 0 < l.length
      · have hx0 : l[0]? = some l[0] := List.getElem?_eq_getElem hl0
        rw [nodeAt_some hx0, decide_eq_true hl0] at HP0
        have e0 : max ((l[0].1 : Nat) : Int) 0 = l[0].1 := by omega
        rw [e0] at HP0
        have hxr : l[l.length - 1]? = some l[l.length - 1] := List.getElem?_eq_getElem (by omega)
        rw [nodeAt_reverse l hl0, Nat.sub_zero, nodeAt_some hxr, decide_eq_true hl0] at HP1
        have e1 : max ((l[l.length - 1].1 : Nat) : Int) 0 = l[l.length - 1].1 := by omega
        rw [e1] at HP1
        generalize l[l.length - 1] = xz at *
        generalize l[0] = xa at *
        clear e0 e1
        have HX0 := hide hx0
        have HXR := hide hxr
        clear hx0 hxr
        go_wp2_with
          (first
          | (go_at_call 26
             have _t := tok0
             refine (HN.out _ HB.out).mono ?_
             rintro en wa ⟨va, ca, rfl, hra, hba⟩
             have HRA := hide hra
             have HBA := hide hba
             clear hra hba tok0)
          | (go_at_call 26
             refine (HN'.out _ (HB.out.trans (HBA.out.mono HB.out.size))).mono ?_
             rintro en wb ⟨vb, cb, rfl, hrb, hbb⟩
             have HRB := hide hrb
             have hbw : Below wr.heap.size wr wb := HBA.out.trans (hbb.mono HBA.out.size)
             have HBW := hide hbw
             have hww := HB.out.trans (hbw.mono HB.out.size)
             have HWW := hide hww
             clear hww
             obtain ⟨ga, hga, hga2⟩ : ∃ ga, va = some ⟨ga, 0, none⟩ ∧ (wb.ownsRow wr.heap.size 3 1 (.slice (some ⟨ga, 0, none⟩) l.length ca) l.length (nums l)) := by
               have := own_only HRA.out (Only.of_new hbb : Only (fun _ => False) wa wb) (fun _ _ h => h)
               obtain ⟨g, cap, hv, _⟩ := own_form this hl0
               injection hv with hv1 hv2 hv3
               subst hv1 hv3
               exact ⟨g, rfl, this⟩
             have q1 : wb.cell? ⟨ga, 0, none⟩ = some (.int .i64 xa.1) := by rw [hga2.cellAt 0 (by omega)]; simp [nums, HX0.out]
             have q2 : wb.cell? ⟨ga, l.length - 1, none⟩ = some (.int .i64 xz.1) := by rw [hga2.cellAt _ (by omega)]; simp [nums, HXR.out]
             have HGA := hide hga2
             rw [hga]
             clear hrb hbb hbw hga2 hga)
          | (go_at_call 32
             refine (HLEN.out _ HWW.out).mono ?_
             rintro en w' ⟨rfl, rfl⟩)
          | (go_at_call 35
             have _t := tok1
             refine (HP0.out _ HWW.out).mono ?_
             rintro en w' ⟨rfl, rfl⟩
             clear tok1)
          | (go_at_call 35
             refine (HP1.out _ HWW.out).mono ?_
             rintro en w' ⟨rfl, rfl⟩))
        have hvb : ∃ gb cap, vb = some ⟨gb, 0, none⟩ ∧ cb = cap ∧ wb.ownsRow (w.heap.size + 1) 3 1 (.slice (some ⟨gb, 0, none⟩) l.length cap) l.length (nums l.reverse) := by
          obtain ⟨g, cap, hv, _⟩ := own_form HRB.out hl0
          injection hv with hv1 hv2 hv3
          subst hv1 hv3
          exact ⟨g, cb, rfl, rfl, own_rebase HRB.out (fun k hk => by have := (HRB.out.lt k hk).1; have := HBK.out.lt; have := HBA.out.size; omega)⟩
        obtain ⟨gb, cap, rfl, rfl, hrb⟩ := hvb
        have hra : wb.ownsRow (w.heap.size + 1) 3 1 (.slice (some ⟨ga, 0, none⟩) l.length ca) l.length (nums l) := own_rebase HGA.out (fun k hk => by have := (HGA.out.lt k hk).1; have := HBK.out.lt; omega)
        have hga := (hra.lt ga rfl).1
        have hgb := (hrb.lt gb rfl).1
        have hbk : Blk wb w.heap.size 3 (arr mk A.most) := HBK.out.below HBW.out HBK.out.lt
        have hbb : Below w.heap.size w wb := HB.out.trans (HBW.out.mono HB.out.size)
        have HRB2 := hide hrb
        have HRA2 := hide hra
        have HBK2 := hide hbk
        have HBB := hide hbb
        clear hrb hra hbk hbb HBK HN HN' HRB HGA HP0 HP1 HLEN q1 q2 HRA HBA HBW HWW HX0 HXR
        go_loopw [16] (fun tk w2 => ∃ (kk : Nat) (mk2 : Nat → Int), kk ≤ l.length ∧ tk = .int .i64 (kk : Int) ∧ Marked A mk2 k kk ∧ Blk w2 w.heap.size 3 (arr mk2 A.most) ∧
            w2.ownsRow (w.heap.size + 1) 3 1 (.slice (some ⟨ga, 0, none⟩) l.length ca) l.length (nums l) ∧ w2.ownsRow (w.heap.size + 1) 3 1 (.slice (some ⟨gb, 0, none⟩) l.length cb) l.length (nums l.reverse) ∧ Below w.heap.size w w2)
          (fun tk _ => l.length - (intOf tk).toNat)
        case atStart => exact ⟨0, mk, Nat.zero_le _, rfl, HMK.out, HBK2.out, HRA2.out, HRB2.out, HBB.out⟩
        case round =>
          obtain ⟨kk, mk2, hkk, rfl, hmk2, hbk, hra, hrb, hbb⟩ := hrel
          have HMK2 := hide hmk2
          have HBK3 := hide hbk
          have HRA3 := hide hra
          have HRB3 := hide hrb
          have HBB3 := hide hbb
          by_cases hlk : kk < l.length
          · have hy : l[kk]? = some l[kk] := List.getElem?_eq_getElem hlk
            generalize l[kk] = y at hy
            obtain ⟨hz, hst⟩ := hmk2.step HR.out HI.out hy
            obtain ⟨g1, _⟩ := HR.out.ch.nodes HI.out hy
            have hym : y.1 < A.most := by have := HR.out.made; have := HR.out.mm; omega
            have r1 : wr.cell? ⟨ga, kk, none⟩ = some (.int .i64 (y.1 : Int)) := by rw [hra.cellAt _ (by omega)]; simp [nums, hy]
            have r2 : wr.cell? ⟨gb, l.length - 1 - kk, none⟩ = some (.int .i64 (y.1 : Int)) := by
              rw [hrb.cellAt _ (by omega)]
              simp only [nums, List.getElem?_map]
              rw [List.getElem?_reverse (by omega), show l.length - 1 - (l.length - 1 - kk) = kk from by omega, hy]; rfl
            have r3 : wr.cell? ⟨w.heap.size, y.1, none⟩ = some (.int .i64 0) := by rw [hbk.cell, arr_get _ hym, hz]
            have r4 := hbk.frozen y.1
            have hb2 : Below w.heap.size w (wr.setCell ⟨w.heap.size, y.1, none⟩ (.int .i64 ((k : Int) + 1))) := hbb.setCell (p := ⟨w.heap.size, y.1, none⟩) (Nat.le_refl _) _
            have hl := HLS.out _ hb2 hy
            have h1 := HNX1.out _ hb2 hy
            have h0 := HNX0.out _ hb2 hy
            have hrel2 : Marked A (upd mk2 y.1 ((k : Int) + 1)) k (kk + 1) ∧ Blk (wr.setCell ⟨w.heap.size, y.1, none⟩ (.int .i64 ((k : Int) + 1))) w.heap.size 3 (arr (upd mk2 y.1 ((k : Int) + 1)) A.most) ∧
                (wr.setCell ⟨w.heap.size, y.1, none⟩ (.int .i64 ((k : Int) + 1))).ownsRow (w.heap.size + 1) 3 1 (.slice (some ⟨ga, 0, none⟩) l.length ca) l.length (nums l) ∧
                (wr.setCell ⟨w.heap.size, y.1, none⟩ (.int .i64 ((k : Int) + 1))).ownsRow (w.heap.size + 1) 3 1 (.slice (some ⟨gb, 0, none⟩) l.length cb) l.length (nums l.reverse) :=
              ⟨hst, by rw [← arr_set]; exact hbk.set_ _ _, own_far (p := ⟨w.heap.size, y.1, none⟩) hra (by simp [Value.ownBlock]; omega) _, own_far (p := ⟨w.heap.size, y.1, none⟩) hrb (by simp [Value.ownBlock]; omega) _⟩
            have HREL2 := hide hrel2
            have HB2 := hide hb2
            have HL := hide hl
            have hym' : (y.1 : Int) < A.most := by omega
            have hgn : ¬ ga = w.heap.size := by omega
            have hgn' : ¬ w.heap.size = ga := by omega
            -- what the neighbours are
            have hnext : (decide (kk + 1 < l.length) = true ∧ (kk : Int) < (l.length : Int) - 1 ∧ ∃ z : Nat × Int, nodeAt l (kk + 1) = z.1 ∧ wr.cell? ⟨ga, kk + 1, none⟩ = some (.int .i64 (z.1 : Int))) ∨ (decide (kk + 1 < l.length) = false ∧ (l.length : Int) - 1 ≤ kk) := by
              by_cases hx : kk + 1 < l.length
              · have hz : l[kk + 1]? = some l[kk + 1] := List.getElem?_eq_getElem hx
                exact .inl ⟨decide_eq_true hx, by omega, l[kk + 1], nodeAt_some hz, by rw [hra.cellAt _ (by omega)]; simp [nums, hz]⟩
              · exact .inr ⟨decide_eq_false hx, by omega⟩
            have hprev : (decide (0 < kk) = true ∧ 0 < (kk : Int) ∧ ∃ z : Nat × Int, nb l false kk = z.1 ∧ wr.cell? ⟨ga, kk - 1, none⟩ = some (.int .i64 (z.1 : Int))) ∨ (decide (0 < kk) = false ∧ (kk : Int) ≤ 0) := by
              cases kk with
              | zero => exact .inr ⟨rfl, by omega⟩
              | succ j =>
                have hz : l[j]? = some l[j] := List.getElem?_eq_getElem (by omega)
                exact .inl ⟨by simp, by omega, l[j], by rw [nb_succ, nodeAt_some hz], by rw [show j + 1 - 1 = j from rfl, hra.cellAt _ (by omega)]; simp [nums, hz]⟩
            clear hmk2 hbk hra hrb hbb hst hy hz hrel2 hb2 hl g1 HNX1 HNX0 HLS HMK2 HBK3 HRA3 HRB3 HBB3 HRA2 HRB2 HBK2 HBB HMK HB
            rcases hnext with ⟨a1, a2, z, a3, a4⟩ | ⟨a1, a2⟩ <;> rcases hprev with ⟨b1, b2, z', b3, b4⟩ | ⟨b1, b2⟩
            · rw [a1, a3, show max ((z.1 : Nat) : Int) 0 = z.1 from by omega] at h1
              rw [b1, b3, show max ((z'.1 : Nat) : Int) 0 = z'.1 from by omega] at h0
              have H1 := hide h1
              have H0 := hide h0
              have tokn : True := trivial
              clear h1 h0 a1 b1 a3 b3
              go_wp2_with
                (first
                | (go_at_call 36
                   refine HL.out.mono ?_
                   rintro en w' ⟨rfl, rfl⟩)
                | (go_at_call 37
                   have _t := tokn
                   refine H1.out.mono ?_
                   rintro en w' ⟨rfl, rfl⟩
                   clear tokn)
                | (go_at_call 37
                   refine H0.out.mono ?_
                   rintro en w' ⟨rfl, rfl⟩))
              go_roundw
              case rel => exact ⟨kk + 1, _, by omega, by go_num, HREL2.out.1, HREL2.out.2.1, HREL2.out.2.2.1, HREL2.out.2.2.2, HB2.out⟩
              case measure => simp [intOf]; omega
            · rw [a1, a3, show max ((z.1 : Nat) : Int) 0 = z.1 from by omega] at h1
              have a5 : wr.cell? ⟨ga, 1, none⟩ = some (.int .i64 (z.1 : Int)) := by rw [show (1 : Nat) = kk + 1 from by omega]; exact a4
              rw [b1] at h0
              generalize max (nb l false kk) 0 = vp at h0
              have H1 := hide h1
              have H0 := hide h0
              have tokn : True := trivial
              clear h1 h0 a1 b1 a3
              go_wp2_with
                (first
                | (go_at_call 36
                   refine HL.out.mono ?_
                   rintro en w' ⟨rfl, rfl⟩)
                | (go_at_call 37
                   have _t := tokn
                   refine H1.out.mono ?_
                   rintro en w' ⟨rfl, rfl⟩
                   clear tokn)
                | (go_at_call 37
                   refine H0.out.mono ?_
                   rintro en w' ⟨rfl, rfl⟩))
              go_roundw
              case rel => exact ⟨kk + 1, _, by omega, by go_num, HREL2.out.1, HREL2.out.2.1, HREL2.out.2.2.1, HREL2.out.2.2.2, HB2.out⟩
              case measure => simp [intOf]; omega
            · rw [a1] at h1
              rw [b1, b3, show max ((z'.1 : Nat) : Int) 0 = z'.1 from by omega] at h0
              generalize max (nodeAt l (kk + 1)) 0 = vn at h1
              have H1 := hide h1
              have H0 := hide h0
              have tokn : True := trivial
              clear h1 h0 a1 b1 b3
              go_wp2_with
                (first
                | (go_at_call 36
                   refine HL.out.mono ?_
                   rintro en w' ⟨rfl, rfl⟩)
                | (go_at_call 37
                   have _t := tokn
                   refine H1.out.mono ?_
                   rintro en w' ⟨rfl, rfl⟩
                   clear tokn)
                | (go_at_call 37
                   refine H0.out.mono ?_
                   rintro en w' ⟨rfl, rfl⟩))
              go_roundw
              case rel => exact ⟨kk + 1, _, by omega, by go_num, HREL2.out.1, HREL2.out.2.1, HREL2.out.2.2.1, HREL2.out.2.2.2, HB2.out⟩
              case measure => simp [intOf]; omega
            · rw [a1] at h1
              rw [b1] at h0
              generalize max (nodeAt l (kk + 1)) 0 = vn at h1
              generalize max (nb l false kk) 0 = vp at h0
              have H1 := hide h1
              have H0 := hide h0
              have tokn : True := trivial
              clear h1 h0 a1 b1
              go_wp2_with
                (first
                | (go_at_call 36
                   refine HL.out.mono ?_
                   rintro en w' ⟨rfl, rfl⟩)
                | (go_at_call 37
                   have _t := tokn
                   refine H1.out.mono ?_
                   rintro en w' ⟨rfl, rfl⟩
                   clear tokn)
                | (go_at_call 37
                   refine H0.out.mono ?_
                   rintro en w' ⟨rfl, rfl⟩))
              go_roundw
              case rel => exact ⟨kk + 1, _, by omega, by go_num, HREL2.out.1, HREL2.out.2.1, HREL2.out.2.2.1, HREL2.out.2.2.2, HB2.out⟩
              case measure => simp [intOf]; omega
          · have hkl : kk = l.length := by omega
            have hmn := hmk2.next HI.out (by omega)
            have HMN := hide hmn
            have hus : ((upto A.L k : Nat) : Int) + (l.length : Int) = (upto A.L (k + 1) : Nat) := by rw [upto_succ HI.out]; omega
            have HUS := hide hus
            have hub : upto A.L k ≤ 2000 := by have := upto_le A.L k; have := HR.out.count; have := HR.out.mm; omega
            clear hmk2 hbk hra hrb hbb hmn hus HNX1 HNX0 HLS HMK2 HRA3 HRB3 HRA2 HRB2 HBK2 HBB HMK HB hkl
            go_wp2
            go_roundw
            case rel => exact ⟨k + 1, mk2, by omega, by rw [HUS.out], by go_num, HMN.out, HBK3.out, HBB3.out⟩
            case measure => simp [intOf]; omega
      · have hle : l = [] := List.eq_nil_of_length_eq_zero (by omega)
        subst hle
        simp only [List.length_nil, List.reverse_nil] at HN HN' HLEN HP0 HP1
        rw [show max (nodeAt ([] : List (Nat × Int)) 0) 0 = 0 from rfl, show decide (0 < 0) = false from rfl] at HP0 HP1
        have hmn := HMK.out.next HI.out (Nat.zero_le _)
        have hus : ((upto A.L k : Nat) : Int) = (upto A.L (k + 1) : Nat) := by rw [upto_succ HI.out]; simp
        have HUS := hide hus
        have HMN := hide hmn
        have hub : upto A.L k ≤ 2000 := by have := upto_le A.L k; have := HR.out.count; have := HR.out.mm; omega
        clear hmn hus HLS HNX1 HNX0 hl0
        go_wp2_with
          (first
          | (go_at_call 26
             have _t := tok0
             refine (HN.out _ HB.out).mono ?_
             rintro en wa ⟨va, ca, rfl, hra, hba⟩
             have HWA := hide (HB.out.trans (hba.mono HB.out.size))
             have HBA := hide hba
             clear hra hba tok0)
          | (go_at_call 26
             refine (HN'.out _ HWA.out).mono ?_
             rintro en wb ⟨vb, cb, rfl, hrb, hbb⟩
             have HWW := hide (HWA.out.trans (hbb.mono HWA.out.size))
             have HBR := hide (HBA.out.trans (hbb.mono HBA.out.size))
             clear hrb hbb)
          | (go_at_call 32
             refine (HLEN.out _ HWW.out).mono ?_
             rintro en w' ⟨rfl, rfl⟩)
          | (go_at_call 35
             have _t := tok1
             refine (HP0.out _ HWW.out).mono ?_
             rintro en w' ⟨rfl, rfl⟩
             clear tok1)
          | (go_at_call 35
             refine (HP1.out _ HWW.out).mono ?_
             rintro en w' ⟨rfl, rfl⟩))
        refine wp_loop_rounds 1 ?_
        rw [rounds_succ]
        go_wp2
        go_roundw
        case rel => exact ⟨k + 1, mk, by omega, by rw [HUS.out], by go_num, HMN.out, HBK.out.below HBR.out HBK.out.lt, HWW.out⟩
        case measure => simp [intOf]; omega
    · have hkl : k = A.L.length := by omega
      rw [hkl] at hmk
      have hend := fun x => hmk.end_ HR.out x
      have HEND := hide hend
      have hsum : ((upto A.L k : Nat) : Int) = (total A.L : Nat) := by rw [hkl, upto_all]
      rw [hsum]
      have hmo := HR.out.most
      have hus := HR.out.used
      have hcn := HR.out.count
      have hmm := HR.out.mm
      have htm : total A.L ≤ A.most := by omega
      have hfree : ∀ W, AMem Ki W f s → Calls Try.prog 20 #[.pointer (some ⟨f.ab, 0, none⟩)] W fun en w' => en = .returned (.int .i64 ((A.most : Int) - (total A.L : Nat))) ∧ ∃ q, w' = W.drewN q := by
        intro W hW
        have := free_n_i W f s hW (by omega) (by omega) (by omega)
        rw [hmo, hus] at this
        exact this
      have HF := hide hfree
      have HBK := hide hblk
      have HB := hide hB
      have hfin : (((total A.L : Nat) : Int) + ((A.most : Int) - (total A.L : Nat)) == (A.most : Int)) = true := by rw [beq_iff_eq]; omega
      have HFIN := hide hfin
      clear hmk hend hsum hmo hus hcn hmm hfree hblk hB hkl hk hfin
      go_wp2
      obtain ⟨wo, hwo⟩ : ∃ wo, wo = wr := ⟨_, rfl⟩
      rw [← hwo] at HB HBK ⊢
      clear hwo
      go_loopw [24] (fun tx w2 => ∃ x : Nat, x ≤ A.most ∧ tx = .int .i64 (x : Int) ∧ w2 = wo) (fun tx _ => A.most - (intOf tx).toNat)
      case atStart => exact ⟨0, Nat.zero_le _, rfl, rfl⟩
      case round =>
        obtain ⟨x, hx, rfl, hw2⟩ := hrel
        subst hw2
        rename World => wo
        have hM := HM.out.below HB.out HLT.out
        by_cases hlx : x < A.most
        · have r1 : wo.cell? ⟨w.heap.size, x, none⟩ = some (.int .i64 (mk x)) := by rw [HBK.out.cell, arr_get _ hlx]
          have hli := list_i wo f s hM x
          have hge := get_i wo f s hM x
          obtain ⟨p1, p2⟩ := HEND.out x
          generalize s.get 0 (x : Int) = gv at hge
          generalize s.listN (x : Int) = ln at hli
          cases hb : s.listB (x : Int) with
          | true =>
            rw [hb] at hli p1
            rw [p2.2 hb] at hge
            have hmx : 0 < mk x := of_decide_eq_true p1
            have HLI := hide hli
            have HGE := hide hge
            clear hli hge p1 p2 hb hM
            go_wp2_with (first | (go_at_call 36; refine HLI.out.mono ?_; rintro en w' ⟨rfl, rfl⟩) | (go_at_call 29; refine HGE.out.mono ?_; rintro en w' ⟨rfl, rfl⟩))
            go_roundw
            case rel => exact ⟨x + 1, by omega, by go_num, by first | trivial | rfl⟩
            case measure => simp [intOf]; omega
          | false =>
            rw [hb] at hli p1
            have hmx : ¬ 0 < mk x := of_decide_eq_false p1
            have hh : ¬ s.holds (x : Int) = 0 := fun e => by have := p2.1 e; rw [hb] at this; cases this
            have HLI := hide hli
            rcases holds_cases s (x : Int) with e | e | e
            · exact absurd e hh
            all_goals
              rw [e] at hge
              have HGE := hide hge
              clear hli hge p1 p2 hb hM hh e
              go_wp2_with (first | (go_at_call 36; refine HLI.out.mono ?_; rintro en w' ⟨rfl, rfl⟩) | (go_at_call 29; refine HGE.out.mono ?_; rintro en w' ⟨rfl, rfl⟩))
              go_roundw
              case rel => exact ⟨x + 1, by omega, by go_num, by first | trivial | rfl⟩
              case measure => simp [intOf]; omega
        · have HM2 := hide hM
          clear hM
          go_wp2_with (go_at_call 20; refine (HF.out _ HM2.out).mono ?_; rintro en w' ⟨rfl, q, rfl⟩)
          go_ret
          exact ⟨by first | rfl | (rw [HFIN.out]; rfl) | simp, below_drewN HB.out _⟩
end Go.Proofs.Ytbjmmfoklnhiiaa
