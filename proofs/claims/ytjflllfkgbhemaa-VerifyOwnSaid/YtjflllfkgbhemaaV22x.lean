/- The walk of taken, where the operands are enough (what it gives is of type 1). Conditions: the bounds that are named. -/
import Derived.Test.YtjflllfkgbhemaaV22
namespace Go.Proofs.Ytjflllfkgbhemaa
open Go.RowKit Go.PlainAid
set_option linter.unusedVariables false in
set_option maxRecDepth 100000 in
set_option maxHeartbeats 4000000 in
theorem taken_go1 (w : World) (pv : Value) (op a b c d : Int) (oa : Option Addr) (ln ca : Nat) (s : St) (n m : Nat) (hml : (takesL op).length = m) (hs : n + m ≤ 4194304) (hsz : s.ty.size = n + m)
    (hop : op ≠ 0) (hG : givesV op = 1) (hc2 : givesV op = 0 ∨ n + 1 ≤ 256) :
    Calls Try.prog 46 #[pv, .agg #[.int .i64 op, .int .i64 a, .int .i64 b, .int .i64 c, .int .i64 d], .agg (s.cells (.slice oa ln ca))] w fun en w' => (if (List.range m).all (fitsV op s.ty n) then en = .returned (.tuple #[.agg (({ s with ty := pushV op s.ty n } : St).cells (.slice oa ln ca)), .int .i64 0]) else en = .returned (.tuple #[.agg (s.cells (.slice oa ln ca)), .int .i64 94])) ∧ Below w.heap.size w w' := by
  have h3 := takesL_3 op
  have h0 : op = 0 → givesV op = 0 := fun e => by rw [e]; rfl
  have hfit : ∀ i, fitsV op s.ty n i = (((takesL op)[i]? == some 3 || (takesL op)[i]? == some (bt s.ty (n + i))) && !(op == 19 && bt s.ty n != bt s.ty (n + 1))) := fun i => rfl
  have hpush : pushV op s.ty n = if givesV op = 0 then s.ty.extract 0 n else s.ty.extract 0 n ++ ⟨#[(givesV op).toNat.toUInt8]⟩ := rfl
  have hres : Try.f46.results = #[.cell 6 74, .tmp 7] := by kernel_rfl
  have hsh := fun W => hide (shapes_i W op)
  have hm := takesL_len op
  have hg := givesV_le op
  have hgb := get_bt s.ty
  obtain ⟨there, ty, ls, hand⟩ := s
  simp only [St.cells] at *
  have hX : Blk (((w.alloc (.cells #[.int .i64 op, .int .i64 a, .int .i64 b, .int .i64 c, .int .i64 d] 46)).alloc (.cells #[.bool there, .string ty, .int .i64 (lv ls 0), .int .i64 (lv ls 1), .int .i64 (lv ls 2), .int .i64 (lv ls 3), .int .i64 (lv ls 4), .int .i64 (lv ls 5), .int .i64 (lv ls 6), .int .i64 (lv ls 7), .int .i64 (ls.length : Int), .int .i64 hand, .slice oa ln ca] 74)).alloc (.cells #[.bool false, .string ⟨#[]⟩, .int .i64 0, .int .i64 0, .int .i64 0, .int .i64 0, .int .i64 0, .int .i64 0, .int .i64 0, .int .i64 0, .int .i64 0, .int .i64 0, .slice none 0 0] 74)) w.heap.size 46 #[.int .i64 op, .int .i64 a, .int .i64 b, .int .i64 c, .int .i64 d] := ((Blk.new w 46 _).alloc _).alloc _
  have hS : Blk (((w.alloc (.cells #[.int .i64 op, .int .i64 a, .int .i64 b, .int .i64 c, .int .i64 d] 46)).alloc (.cells #[.bool there, .string ty, .int .i64 (lv ls 0), .int .i64 (lv ls 1), .int .i64 (lv ls 2), .int .i64 (lv ls 3), .int .i64 (lv ls 4), .int .i64 (lv ls 5), .int .i64 (lv ls 6), .int .i64 (lv ls 7), .int .i64 (ls.length : Int), .int .i64 hand, .slice oa ln ca] 74)).alloc (.cells #[.bool false, .string ⟨#[]⟩, .int .i64 0, .int .i64 0, .int .i64 0, .int .i64 0, .int .i64 0, .int .i64 0, .int .i64 0, .int .i64 0, .int .i64 0, .int .i64 0, .slice none 0 0] 74)) (w.heap.size + 1) 74 #[.bool there, .string ty, .int .i64 (lv ls 0), .int .i64 (lv ls 1), .int .i64 (lv ls 2), .int .i64 (lv ls 3), .int .i64 (lv ls 4), .int .i64 (lv ls 5), .int .i64 (lv ls 6), .int .i64 (lv ls 7), .int .i64 (ls.length : Int), .int .i64 hand, .slice oa ln ca] := by
    have := (Blk.new (w.alloc (.cells #[.int .i64 op, .int .i64 a, .int .i64 b, .int .i64 c, .int .i64 d] 46)) 74 #[.bool there, .string ty, .int .i64 (lv ls 0), .int .i64 (lv ls 1), .int .i64 (lv ls 2), .int .i64 (lv ls 3), .int .i64 (lv ls 4), .int .i64 (lv ls 5), .int .i64 (lv ls 6), .int .i64 (lv ls 7), .int .i64 (ls.length : Int), .int .i64 hand, .slice oa ln ca]).alloc (.cells #[.bool false, .string ⟨#[]⟩, .int .i64 0, .int .i64 0, .int .i64 0, .int .i64 0, .int .i64 0, .int .i64 0, .int .i64 0, .int .i64 0, .int .i64 0, .int .i64 0, .slice none 0 0] 74)
    simpa using this
  have hR : Blk (((w.alloc (.cells #[.int .i64 op, .int .i64 a, .int .i64 b, .int .i64 c, .int .i64 d] 46)).alloc (.cells #[.bool there, .string ty, .int .i64 (lv ls 0), .int .i64 (lv ls 1), .int .i64 (lv ls 2), .int .i64 (lv ls 3), .int .i64 (lv ls 4), .int .i64 (lv ls 5), .int .i64 (lv ls 6), .int .i64 (lv ls 7), .int .i64 (ls.length : Int), .int .i64 hand, .slice oa ln ca] 74)).alloc (.cells #[.bool false, .string ⟨#[]⟩, .int .i64 0, .int .i64 0, .int .i64 0, .int .i64 0, .int .i64 0, .int .i64 0, .int .i64 0, .int .i64 0, .int .i64 0, .int .i64 0, .slice none 0 0] 74)) (w.heap.size + 1 + 1) 74 #[.bool false, .string ⟨#[]⟩, .int .i64 0, .int .i64 0, .int .i64 0, .int .i64 0, .int .i64 0, .int .i64 0, .int .i64 0, .int .i64 0, .int .i64 0, .int .i64 0, .slice none 0 0] := by
    have := Blk.new ((w.alloc (.cells #[.int .i64 op, .int .i64 a, .int .i64 b, .int .i64 c, .int .i64 d] 46)).alloc (.cells #[.bool there, .string ty, .int .i64 (lv ls 0), .int .i64 (lv ls 1), .int .i64 (lv ls 2), .int .i64 (lv ls 3), .int .i64 (lv ls 4), .int .i64 (lv ls 5), .int .i64 (lv ls 6), .int .i64 (lv ls 7), .int .i64 (ls.length : Int), .int .i64 hand, .slice oa ln ca] 74)) 74 #[.bool false, .string ⟨#[]⟩, .int .i64 0, .int .i64 0, .int .i64 0, .int .i64 0, .int .i64 0, .int .i64 0, .int .i64 0, .int .i64 0, .int .i64 0, .int .i64 0, .slice none 0 0]
    simpa using this
  have hL : Below w.heap.size w (((w.alloc (.cells #[.int .i64 op, .int .i64 a, .int .i64 b, .int .i64 c, .int .i64 d] 46)).alloc (.cells #[.bool there, .string ty, .int .i64 (lv ls 0), .int .i64 (lv ls 1), .int .i64 (lv ls 2), .int .i64 (lv ls 3), .int .i64 (lv ls 4), .int .i64 (lv ls 5), .int .i64 (lv ls 6), .int .i64 (lv ls 7), .int .i64 (ls.length : Int), .int .i64 hand, .slice oa ln ca] 74)).alloc (.cells #[.bool false, .string ⟨#[]⟩, .int .i64 0, .int .i64 0, .int .i64 0, .int .i64 0, .int .i64 0, .int .i64 0, .int .i64 0, .int .i64 0, .int .i64 0, .int .i64 0, .slice none 0 0] 74)) := (((Below.refl _ w).alloc (Nat.le_refl _) _).alloc (by simp) _).alloc (by simp; omega) _
  have HX := hide hX
  have HS := hide hS
  have HR := hide hR
  have HL := hide hL
  clear hX hS hR hL
  generalize pushV op ty n = PU at *
  generalize takesL op = L at *
  generalize givesV op = G at *
  have hfT := all_upto (fitsV op ty n) m
  have hfF := all_not (fitsV op ty n) m
  generalize (List.range m).all (fitsV op ty n) = AL at *
  generalize fitsV op ty n = F at *
  have HFIT := hide hfit
  have H3 := hide h3
  have HPU := hide hpush
  have HFT := hide hfT
  have HFF := hide hfF
  clear hfit h3 hpush hfT hfF
  subst hG
  clear hg
  have u1 := IntWalk.i64_in ((n : Int) + (m : Int) - (m : Int)) (by omega)
  have u2 := IntWalk.i64_in (n : Int) (by omega)
  have u3 := IntWalk.i64_in ((n : Int) + 1) (by omega)
  have ob : (op == 0) = false := by simpa using hop
  have HOP := hide hop
  clear hop
  go_enter Try.func46, Try.ntmps46
  go_wp2_with (go_at_call 68
               refine (hsh _).out.mono ?_
               rintro en w2 ⟨tv, rfl, ⟨ot, ct, rfl, ht⟩, hb2⟩
               try rw [hml]
               have kX := (HX.out.below hb2 HX.out.lt).alloc (.cells #[.slice ot m ct, .int .i64 1] 137)
               have kS := (HS.out.below hb2 HS.out.lt).alloc (.cells #[.slice ot m ct, .int .i64 1] 137)
               have kR := (HR.out.below hb2 HR.out.lt).alloc (.cells #[.slice ot m ct, .int .i64 1] 137)
               have kH := Blk.new w2 137 #[.slice ot m ct, .int .i64 1]
               have x0 : (w2.alloc (.cells #[.slice ot m ct, .int .i64 1] 137)).cell? ⟨w.heap.size, 0, none⟩ = some (.int .i64 op) := by rw [kX.cell]; rfl
               have s0 : (w2.alloc (.cells #[.slice ot m ct, .int .i64 1] 137)).cell? ⟨w.heap.size + 1, 0, none⟩ = some (.bool there) := by rw [kS.cell]; rfl
               have sf0 := kS.frozen 0
               have s1 : (w2.alloc (.cells #[.slice ot m ct, .int .i64 1] 137)).cell? ⟨w.heap.size + 1, 1, none⟩ = some (.string ty) := by rw [kS.cell]; rfl
               have sf1 := kS.frozen 1
               have s2 : (w2.alloc (.cells #[.slice ot m ct, .int .i64 1] 137)).cell? ⟨w.heap.size + 1, 2, none⟩ = some (.int .i64 (lv ls 0)) := by rw [kS.cell]; rfl
               have sf2 := kS.frozen 2
               have s3 : (w2.alloc (.cells #[.slice ot m ct, .int .i64 1] 137)).cell? ⟨w.heap.size + 1, 3, none⟩ = some (.int .i64 (lv ls 1)) := by rw [kS.cell]; rfl
               have sf3 := kS.frozen 3
               have s4 : (w2.alloc (.cells #[.slice ot m ct, .int .i64 1] 137)).cell? ⟨w.heap.size + 1, 4, none⟩ = some (.int .i64 (lv ls 2)) := by rw [kS.cell]; rfl
               have sf4 := kS.frozen 4
               have s5 : (w2.alloc (.cells #[.slice ot m ct, .int .i64 1] 137)).cell? ⟨w.heap.size + 1, 5, none⟩ = some (.int .i64 (lv ls 3)) := by rw [kS.cell]; rfl
               have sf5 := kS.frozen 5
               have s6 : (w2.alloc (.cells #[.slice ot m ct, .int .i64 1] 137)).cell? ⟨w.heap.size + 1, 6, none⟩ = some (.int .i64 (lv ls 4)) := by rw [kS.cell]; rfl
               have sf6 := kS.frozen 6
               have s7 : (w2.alloc (.cells #[.slice ot m ct, .int .i64 1] 137)).cell? ⟨w.heap.size + 1, 7, none⟩ = some (.int .i64 (lv ls 5)) := by rw [kS.cell]; rfl
               have sf7 := kS.frozen 7
               have s8 : (w2.alloc (.cells #[.slice ot m ct, .int .i64 1] 137)).cell? ⟨w.heap.size + 1, 8, none⟩ = some (.int .i64 (lv ls 6)) := by rw [kS.cell]; rfl
               have sf8 := kS.frozen 8
               have s9 : (w2.alloc (.cells #[.slice ot m ct, .int .i64 1] 137)).cell? ⟨w.heap.size + 1, 9, none⟩ = some (.int .i64 (lv ls 7)) := by rw [kS.cell]; rfl
               have sf9 := kS.frozen 9
               have s10 : (w2.alloc (.cells #[.slice ot m ct, .int .i64 1] 137)).cell? ⟨w.heap.size + 1, 10, none⟩ = some (.int .i64 (ls.length : Int)) := by rw [kS.cell]; rfl
               have sf10 := kS.frozen 10
               have s11 : (w2.alloc (.cells #[.slice ot m ct, .int .i64 1] 137)).cell? ⟨w.heap.size + 1, 11, none⟩ = some (.int .i64 hand) := by rw [kS.cell]; rfl
               have sf11 := kS.frozen 11
               have s12 : (w2.alloc (.cells #[.slice ot m ct, .int .i64 1] 137)).cell? ⟨w.heap.size + 1, 12, none⟩ = some (.slice oa ln ca) := by rw [kS.cell]; rfl
               have sf12 := kS.frozen 12
               have r0 : (w2.alloc (.cells #[.slice ot m ct, .int .i64 1] 137)).cell? ⟨w.heap.size + 1 + 1, 0, none⟩ = some (.bool false) := by rw [kR.cell]; rfl
               have rf0 := kR.frozen 0
               have r1 : (w2.alloc (.cells #[.slice ot m ct, .int .i64 1] 137)).cell? ⟨w.heap.size + 1 + 1, 1, none⟩ = some (.string ⟨#[]⟩) := by rw [kR.cell]; rfl
               have rf1 := kR.frozen 1
               have r2 : (w2.alloc (.cells #[.slice ot m ct, .int .i64 1] 137)).cell? ⟨w.heap.size + 1 + 1, 2, none⟩ = some (.int .i64 0) := by rw [kR.cell]; rfl
               have rf2 := kR.frozen 2
               have r3 : (w2.alloc (.cells #[.slice ot m ct, .int .i64 1] 137)).cell? ⟨w.heap.size + 1 + 1, 3, none⟩ = some (.int .i64 0) := by rw [kR.cell]; rfl
               have rf3 := kR.frozen 3
               have r4 : (w2.alloc (.cells #[.slice ot m ct, .int .i64 1] 137)).cell? ⟨w.heap.size + 1 + 1, 4, none⟩ = some (.int .i64 0) := by rw [kR.cell]; rfl
               have rf4 := kR.frozen 4
               have r5 : (w2.alloc (.cells #[.slice ot m ct, .int .i64 1] 137)).cell? ⟨w.heap.size + 1 + 1, 5, none⟩ = some (.int .i64 0) := by rw [kR.cell]; rfl
               have rf5 := kR.frozen 5
               have r6 : (w2.alloc (.cells #[.slice ot m ct, .int .i64 1] 137)).cell? ⟨w.heap.size + 1 + 1, 6, none⟩ = some (.int .i64 0) := by rw [kR.cell]; rfl
               have rf6 := kR.frozen 6
               have r7 : (w2.alloc (.cells #[.slice ot m ct, .int .i64 1] 137)).cell? ⟨w.heap.size + 1 + 1, 7, none⟩ = some (.int .i64 0) := by rw [kR.cell]; rfl
               have rf7 := kR.frozen 7
               have r8 : (w2.alloc (.cells #[.slice ot m ct, .int .i64 1] 137)).cell? ⟨w.heap.size + 1 + 1, 8, none⟩ = some (.int .i64 0) := by rw [kR.cell]; rfl
               have rf8 := kR.frozen 8
               have r9 : (w2.alloc (.cells #[.slice ot m ct, .int .i64 1] 137)).cell? ⟨w.heap.size + 1 + 1, 9, none⟩ = some (.int .i64 0) := by rw [kR.cell]; rfl
               have rf9 := kR.frozen 9
               have r10 : (w2.alloc (.cells #[.slice ot m ct, .int .i64 1] 137)).cell? ⟨w.heap.size + 1 + 1, 10, none⟩ = some (.int .i64 0) := by rw [kR.cell]; rfl
               have rf10 := kR.frozen 10
               have r11 : (w2.alloc (.cells #[.slice ot m ct, .int .i64 1] 137)).cell? ⟨w.heap.size + 1 + 1, 11, none⟩ = some (.int .i64 0) := by rw [kR.cell]; rfl
               have rf11 := kR.frozen 11
               have r12 : (w2.alloc (.cells #[.slice ot m ct, .int .i64 1] 137)).cell? ⟨w.heap.size + 1 + 1, 12, none⟩ = some (.slice none 0 0) := by rw [kR.cell]; rfl
               have rf12 := kR.frozen 12
               have HSZ := hide hb2.size
               have HB2 := hide (HL.out.trans (hb2.mono HL.out.size))
               have HT := hide ht
               have KX := hide kX
               have KS := hide kS
               have KR := hide kR
               have KH := hide kH
               clear ht hb2 kX kS kR kH)
  all_goals first | (exfalso; omega) | (exfalso; simp only [bne_iff_ne] at *; omega) | skip
  all_goals
    go_loopw [48] (fun tx W => ∃ i : Nat, tx = .int .i64 (i : Int) ∧ i ≤ m ∧ (∀ j, j < i → F j = true) ∧ ∃ q, W = (w2.alloc (.cells #[.slice ot m ct, .int .i64 1] 137)).drewN q) (fun tx _ => m - (intOf tx).toNat)
    case atStart => exact ⟨0, rfl, Nat.zero_le _, (fun j hj => by omega), 0, rfl⟩
    case round =>
      obtain ⟨i, rfl, hi, hall, q, rfl⟩ := hrel
      have HA := hide hall
      have u4 := IntWalk.i64_in ((n : Int) + (i : Int)) (by omega)
      have u5 := IntWalk.i64_in ((i : Int) + 1) (by omega)
      clear hall
      by_cases hlt : i < m
      · obtain ⟨t, ht⟩ : ∃ t, L[i]? = some t := ⟨_, List.getElem?_eq_getElem (by omega)⟩
        obtain ⟨g, rfl, hgl, q0⟩ := HT.out i t ht
        have q1 := (World.cell?_alloc_lt w2 (.cells #[.slice (some ⟨g, 0, none⟩) m ct, .int .i64 1] 137) ⟨g, i, none⟩ (by exact hgl)).trans q0
        have hF := HFIT.out i
        rw [ht] at hF
        have h3 := H3.out i t ht
        clear ht hgl q0
        have hbw : wrap64 (bt ty (n + i)) = bt ty (n + i) := by have h1 := bt_nonneg ty (n + i); have h2 := bt_le ty (n + i); rw [← i64_is]; exact IntWalk.i64_in _ (by omega)
        generalize hb0 : bt ty n = b0 at *
        generalize hb1 : bt ty (n + 1) = b1 at *
        generalize hbi : bt ty (n + i) = bi at *
        rcases h3 with ⟨ho, rfl, hm2⟩ | ⟨ho, ht⟩
        · have ho19 : (op == 19) = true := by rw [ho]; rfl
          clear ho
          have hn1 : n + 1 < n + m := by omega
          by_cases hbb : b0 = b1
          · subst hbb
            have HF := hide hF
            clear hF
            go_wp2
            go_quiet (fail)
            go_wp2
            go_roundw
            case rel => exact ⟨i + 1, by go_num, by omega, fun j hj => by
              rcases Nat.lt_succ_iff_lt_or_eq.1 hj with h | rfl
              · exact HA.out j h
              · rw [HF.out]; simp, _, by first | rfl | rw [World.drewN_drewN]⟩
            case measure => simp [intOf]; omega
          · have HF := hide hF
            clear hF
            have hAL := HFF.out i hlt (by rw [HF.out, ho19]; simp [hbb])
            subst hAL
            clear HFIT H3 HPU HFT HFF HF HA u1 u3 u4 u5 hc2
            go_wp2
            go_quiet (fail)
            go_wp2
            rw [put13_eq]
            have kZ := blk13 (.bool there) (.string ty) (.int .i64 (lv ls 0)) (.int .i64 (lv ls 1)) (.int .i64 (lv ls 2)) (.int .i64 (lv ls 3)) (.int .i64 (lv ls 4)) (.int .i64 (lv ls 5)) (.int .i64 (lv ls 6)) (.int .i64 (lv ls 7)) (.int .i64 (ls.length : Int)) (.int .i64 hand) (.slice oa ln ca) (KR.out.drewN (q + nq)) rfl
            have hB : Below w.heap.size w (put13 ((w2.alloc (.cells #[.slice (some ⟨g, 0, none⟩) m ct, .int .i64 1] 137)).drewN (q + nq)) (w.heap.size + 1 + 1) (.bool there) (.string ty) (.int .i64 (lv ls 0)) (.int .i64 (lv ls 1)) (.int .i64 (lv ls 2)) (.int .i64 (lv ls 3)) (.int .i64 (lv ls 4)) (.int .i64 (lv ls 5)) (.int .i64 (lv ls 6)) (.int .i64 (lv ls 7)) (.int .i64 (ls.length : Int)) (.int .i64 hand) (.slice oa ln ca)) := below13 (.bool there) (.string ty) (.int .i64 (lv ls 0)) (.int .i64 (lv ls 1)) (.int .i64 (lv ls 2)) (.int .i64 (lv ls 3)) (.int .i64 (lv ls 4)) (.int .i64 (lv ls 5)) (.int .i64 (lv ls 6)) (.int .i64 (lv ls 7)) (.int .i64 (ls.length : Int)) (.int .i64 hand) (.slice oa ln ca) (below_drewN (HB2.out.alloc HB2.out.size _) (q + nq)) (by omega)
            generalize put13 ((w2.alloc (.cells #[.slice (some ⟨g, 0, none⟩) m ct, .int .i64 1] 137)).drewN (q + nq)) (w.heap.size + 1 + 1) (.bool there) (.string ty) (.int .i64 (lv ls 0)) (.int .i64 (lv ls 1)) (.int .i64 (lv ls 2)) (.int .i64 (lv ls 3)) (.int .i64 (lv ls 4)) (.int .i64 (lv ls 5)) (.int .i64 (lv ls 6)) (.int .i64 (lv ls 7)) (.int .i64 (ls.length : Int)) (.int .i64 hand) (.slice oa ln ca) = Wz at *
            have z0 : Wz.cell? ⟨w.heap.size + 1 + 1, 0, none⟩ = some (.bool there) := by rw [kZ.cell]; rfl
            have z1 : Wz.cell? ⟨w.heap.size + 1 + 1, 1, none⟩ = some (.string ty) := by rw [kZ.cell]; rfl
            have z2 : Wz.cell? ⟨w.heap.size + 1 + 1, 2, none⟩ = some (.int .i64 (lv ls 0)) := by rw [kZ.cell]; rfl
            have z3 : Wz.cell? ⟨w.heap.size + 1 + 1, 3, none⟩ = some (.int .i64 (lv ls 1)) := by rw [kZ.cell]; rfl
            have z4 : Wz.cell? ⟨w.heap.size + 1 + 1, 4, none⟩ = some (.int .i64 (lv ls 2)) := by rw [kZ.cell]; rfl
            have z5 : Wz.cell? ⟨w.heap.size + 1 + 1, 5, none⟩ = some (.int .i64 (lv ls 3)) := by rw [kZ.cell]; rfl
            have z6 : Wz.cell? ⟨w.heap.size + 1 + 1, 6, none⟩ = some (.int .i64 (lv ls 4)) := by rw [kZ.cell]; rfl
            have z7 : Wz.cell? ⟨w.heap.size + 1 + 1, 7, none⟩ = some (.int .i64 (lv ls 5)) := by rw [kZ.cell]; rfl
            have z8 : Wz.cell? ⟨w.heap.size + 1 + 1, 8, none⟩ = some (.int .i64 (lv ls 6)) := by rw [kZ.cell]; rfl
            have z9 : Wz.cell? ⟨w.heap.size + 1 + 1, 9, none⟩ = some (.int .i64 (lv ls 7)) := by rw [kZ.cell]; rfl
            have z10 : Wz.cell? ⟨w.heap.size + 1 + 1, 10, none⟩ = some (.int .i64 (ls.length : Int)) := by rw [kZ.cell]; rfl
            have z11 : Wz.cell? ⟨w.heap.size + 1 + 1, 11, none⟩ = some (.int .i64 hand) := by rw [kZ.cell]; rfl
            have z12 : Wz.cell? ⟨w.heap.size + 1 + 1, 12, none⟩ = some (.slice oa ln ca) := by rw [kZ.cell]; rfl
            refine bodyPost_ret (v := .tuple #[.agg #[.bool there, .string ty, .int .i64 (lv ls 0), .int .i64 (lv ls 1), .int .i64 (lv ls 2), .int .i64 (lv ls 3), .int .i64 (lv ls 4), .int .i64 (lv ls 5), .int .i64 (lv ls 6), .int .i64 (lv ls 7), .int .i64 (ls.length : Int), .int .i64 hand, .slice oa ln ca], .int .i64 94]) ?_ rfl ⟨by first | rfl | simp, hB⟩
            simp only [results, hres]
            go_simp
        · have ho19 : (op == 19) = false := by simpa using ho
          have HT3 := hide ht
          have ht3 : (t != 3) = true := by simpa using ht
          by_cases hbt : bi = t
          · subst hbt
            have HF := hide hF
            clear hF
            go_wp2
            go_quiet (fail)
            go_wp2
            go_roundw
            case rel => exact ⟨i + 1, by go_num, by omega, fun j hj => by
              rcases Nat.lt_succ_iff_lt_or_eq.1 hj with h | rfl
              · exact HA.out j h
              · rw [HF.out, ho19]; simp, _, by first | rfl | rw [World.drewN_drewN]⟩
            case measure => simp [intOf]; omega
          · have HF := hide hF
            clear hF
            have hAL := HFF.out i hlt (by rw [HF.out]; rw [ho19]; simp [HT3.out]; omega)
            have hbt2 : (bi != t) = true := by simpa using hbt
            clear hbt
            subst hAL
            clear HFIT H3 HPU HFT HFF HF HA u1 u3 u4 u5 hc2
            go_wp2
            go_quiet (fail)
            go_wp2
            rw [put13_eq]
            have kZ := blk13 (.bool there) (.string ty) (.int .i64 (lv ls 0)) (.int .i64 (lv ls 1)) (.int .i64 (lv ls 2)) (.int .i64 (lv ls 3)) (.int .i64 (lv ls 4)) (.int .i64 (lv ls 5)) (.int .i64 (lv ls 6)) (.int .i64 (lv ls 7)) (.int .i64 (ls.length : Int)) (.int .i64 hand) (.slice oa ln ca) (KR.out.drewN (q + nq)) rfl
            have hB : Below w.heap.size w (put13 ((w2.alloc (.cells #[.slice (some ⟨g, 0, none⟩) m ct, .int .i64 1] 137)).drewN (q + nq)) (w.heap.size + 1 + 1) (.bool there) (.string ty) (.int .i64 (lv ls 0)) (.int .i64 (lv ls 1)) (.int .i64 (lv ls 2)) (.int .i64 (lv ls 3)) (.int .i64 (lv ls 4)) (.int .i64 (lv ls 5)) (.int .i64 (lv ls 6)) (.int .i64 (lv ls 7)) (.int .i64 (ls.length : Int)) (.int .i64 hand) (.slice oa ln ca)) := below13 (.bool there) (.string ty) (.int .i64 (lv ls 0)) (.int .i64 (lv ls 1)) (.int .i64 (lv ls 2)) (.int .i64 (lv ls 3)) (.int .i64 (lv ls 4)) (.int .i64 (lv ls 5)) (.int .i64 (lv ls 6)) (.int .i64 (lv ls 7)) (.int .i64 (ls.length : Int)) (.int .i64 hand) (.slice oa ln ca) (below_drewN (HB2.out.alloc HB2.out.size _) (q + nq)) (by omega)
            generalize put13 ((w2.alloc (.cells #[.slice (some ⟨g, 0, none⟩) m ct, .int .i64 1] 137)).drewN (q + nq)) (w.heap.size + 1 + 1) (.bool there) (.string ty) (.int .i64 (lv ls 0)) (.int .i64 (lv ls 1)) (.int .i64 (lv ls 2)) (.int .i64 (lv ls 3)) (.int .i64 (lv ls 4)) (.int .i64 (lv ls 5)) (.int .i64 (lv ls 6)) (.int .i64 (lv ls 7)) (.int .i64 (ls.length : Int)) (.int .i64 hand) (.slice oa ln ca) = Wz at *
            have z0 : Wz.cell? ⟨w.heap.size + 1 + 1, 0, none⟩ = some (.bool there) := by rw [kZ.cell]; rfl
            have z1 : Wz.cell? ⟨w.heap.size + 1 + 1, 1, none⟩ = some (.string ty) := by rw [kZ.cell]; rfl
            have z2 : Wz.cell? ⟨w.heap.size + 1 + 1, 2, none⟩ = some (.int .i64 (lv ls 0)) := by rw [kZ.cell]; rfl
            have z3 : Wz.cell? ⟨w.heap.size + 1 + 1, 3, none⟩ = some (.int .i64 (lv ls 1)) := by rw [kZ.cell]; rfl
            have z4 : Wz.cell? ⟨w.heap.size + 1 + 1, 4, none⟩ = some (.int .i64 (lv ls 2)) := by rw [kZ.cell]; rfl
            have z5 : Wz.cell? ⟨w.heap.size + 1 + 1, 5, none⟩ = some (.int .i64 (lv ls 3)) := by rw [kZ.cell]; rfl
            have z6 : Wz.cell? ⟨w.heap.size + 1 + 1, 6, none⟩ = some (.int .i64 (lv ls 4)) := by rw [kZ.cell]; rfl
            have z7 : Wz.cell? ⟨w.heap.size + 1 + 1, 7, none⟩ = some (.int .i64 (lv ls 5)) := by rw [kZ.cell]; rfl
            have z8 : Wz.cell? ⟨w.heap.size + 1 + 1, 8, none⟩ = some (.int .i64 (lv ls 6)) := by rw [kZ.cell]; rfl
            have z9 : Wz.cell? ⟨w.heap.size + 1 + 1, 9, none⟩ = some (.int .i64 (lv ls 7)) := by rw [kZ.cell]; rfl
            have z10 : Wz.cell? ⟨w.heap.size + 1 + 1, 10, none⟩ = some (.int .i64 (ls.length : Int)) := by rw [kZ.cell]; rfl
            have z11 : Wz.cell? ⟨w.heap.size + 1 + 1, 11, none⟩ = some (.int .i64 hand) := by rw [kZ.cell]; rfl
            have z12 : Wz.cell? ⟨w.heap.size + 1 + 1, 12, none⟩ = some (.slice oa ln ca) := by rw [kZ.cell]; rfl
            refine bodyPost_ret (v := .tuple #[.agg #[.bool there, .string ty, .int .i64 (lv ls 0), .int .i64 (lv ls 1), .int .i64 (lv ls 2), .int .i64 (lv ls 3), .int .i64 (lv ls 4), .int .i64 (lv ls 5), .int .i64 (lv ls 6), .int .i64 (lv ls 7), .int .i64 (ls.length : Int), .int .i64 hand, .slice oa ln ca], .int .i64 94]) ?_ rfl ⟨by first | rfl | simp, hB⟩
            simp only [results, hres]
            go_simp
      · obtain rfl : m = i := by omega
        have hAL := HFT.out HA.out
        subst hAL
        have hsz2 : w.heap.size + 1 + 1 < w2.heap.size := by
          have := HSZ.out
          simp at this
          omega
        have n1 : w2.heap.size ≠ w.heap.size + 1 := by omega
        have n2 : w.heap.size + 1 ≠ w2.heap.size := by omega
        have n3 : w2.heap.size ≠ w.heap.size + 1 + 1 := by omega
        have n4 : w.heap.size + 1 + 1 ≠ w2.heap.size := by omega
        have hPU : PU = ty.extract 0 n ++ ⟨#[1]⟩ := by rw [HPU.out, if_neg (by decide)]; rfl
        have eW : (((w2.alloc (.cells #[.slice ot m ct, .int .i64 1] 137)).drewN q).setCell ⟨w.heap.size + 1, 1, none⟩ (.string (ty.extract 0 n))).heap.size = w2.heap.size + 1 := by simp
        have kB : Blk ((((w2.alloc (.cells #[.slice ot m ct, .int .i64 1] 137)).drewN q).setCell ⟨w.heap.size + 1, 1, none⟩ (.string (ty.extract 0 n))).alloc (.cells #[.int .u8 1] 5)) (w2.heap.size + 1) 5 #[.int .u8 1] := by
          have := Blk.new (((w2.alloc (.cells #[.slice ot m ct, .int .i64 1] 137)).drewN q).setCell ⟨w.heap.size + 1, 1, none⟩ (.string (ty.extract 0 n))) 5 #[.int .u8 1]
          rw [eW] at this
          exact this
        have hcv : (convert 139 9 (.slice (some ⟨w2.heap.size + 1, 0, none⟩) 1 1)).run Try.prog ((((w2.alloc (.cells #[.slice ot m ct, .int .i64 1] 137)).drewN q).setCell ⟨w.heap.size + 1, 1, none⟩ (.string (ty.extract 0 n))).alloc (.cells #[.int .u8 1] 5)) = .ok (.string ⟨#[1]⟩) ((((w2.alloc (.cells #[.slice ot m ct, .int .i64 1] 137)).drewN q).setCell ⟨w.heap.size + 1, 1, none⟩ (.string (ty.extract 0 n))).alloc (.cells #[.int .u8 1] 5)) := run_convert_bytes_back ((((w2.alloc (.cells #[.slice ot m ct, .int .i64 1] 137)).drewN q).setCell ⟨w.heap.size + 1, 1, none⟩ (.string (ty.extract 0 n))).alloc (.cells #[.int .u8 1] 5)) 139 9 5 ⟨w2.heap.size + 1, 0, none⟩ 1 [1] Try.underlying139 Try.underlying5 Try.underlying9 (fun j hj => by
          obtain rfl : j = 0 := by simp at hj; exact hj
          show ((((w2.alloc (.cells #[.slice ot m ct, .int .i64 1] 137)).drewN q).setCell ⟨w.heap.size + 1, 1, none⟩ (.string (ty.extract 0 n))).alloc (.cells #[.int .u8 1] 5)).cell? ⟨w2.heap.size + 1, 0, none⟩ = some (.int .u8 1)
          rw [kB.cell]; rfl)
        have kS5 : Blk ((((w2.alloc (.cells #[.slice ot m ct, .int .i64 1] 137)).drewN q).setCell ⟨w.heap.size + 1, 1, none⟩ (.string (ty.extract 0 n))).alloc (.cells #[.int .u8 1] 5)) (w.heap.size + 1) 74 _ := ((KS.out.drewN q).set_ 1 _).alloc _
        have c5 : ((((w2.alloc (.cells #[.slice ot m ct, .int .i64 1] 137)).drewN q).setCell ⟨w.heap.size + 1, 1, none⟩ (.string (ty.extract 0 n))).alloc (.cells #[.int .u8 1] 5)).cell? ⟨w.heap.size + 1, 1, none⟩ = some (.string (ty.extract 0 n)) := by rw [kS5.cell]; rfl
        have sf5 : ((((w2.alloc (.cells #[.slice ot m ct, .int .i64 1] 137)).drewN q).setCell ⟨w.heap.size + 1, 1, none⟩ (.string (ty.extract 0 n))).alloc (.cells #[.int .u8 1] 5)).frozen? ⟨w.heap.size + 1, 1, none⟩ = false := kS5.frozen 1
        have hb6 : Below w.heap.size w (((((w2.alloc (.cells #[.slice ot m ct, .int .i64 1] 137)).drewN q).setCell ⟨w.heap.size + 1, 1, none⟩ (.string (ty.extract 0 n))).alloc (.cells #[.int .u8 1] 5)).setCell ⟨w.heap.size + 1, 1, none⟩ (.string (ty.extract 0 n ++ ⟨#[1]⟩))) := ((((below_drewN (HB2.out.alloc HB2.out.size _) q).setCell (p := ⟨w.heap.size + 1, 1, none⟩) (by exact Nat.le_succ _) _).alloc (by have := HB2.out.size; simp; omega) _).setCell (p := ⟨w.heap.size + 1, 1, none⟩) (by exact Nat.le_succ _) _)
        have kR6 : Blk (((((w2.alloc (.cells #[.slice ot m ct, .int .i64 1] 137)).drewN q).setCell ⟨w.heap.size + 1, 1, none⟩ (.string (ty.extract 0 n))).alloc (.cells #[.int .u8 1] 5)).setCell ⟨w.heap.size + 1, 1, none⟩ (.string (ty.extract 0 n ++ ⟨#[1]⟩))) (w.heap.size + 1 + 1) 74 #[.bool false, .string ⟨#[]⟩, .int .i64 0, .int .i64 0, .int .i64 0, .int .i64 0, .int .i64 0, .int .i64 0, .int .i64 0, .int .i64 0, .int .i64 0, .int .i64 0, .slice none 0 0] := (((KR.out.drewN q).far (by show w.heap.size + 1 + 1 ≠ w.heap.size + 1; omega) _).alloc _).far (by show w.heap.size + 1 + 1 ≠ w.heap.size + 1; omega) _
        have kS6 : Blk (((((w2.alloc (.cells #[.slice ot m ct, .int .i64 1] 137)).drewN q).setCell ⟨w.heap.size + 1, 1, none⟩ (.string (ty.extract 0 n))).alloc (.cells #[.int .u8 1] 5)).setCell ⟨w.heap.size + 1, 1, none⟩ (.string (ty.extract 0 n ++ ⟨#[1]⟩))) (w.heap.size + 1) 74 #[.bool there, .string (ty.extract 0 n ++ ⟨#[1]⟩), .int .i64 (lv ls 0), .int .i64 (lv ls 1), .int .i64 (lv ls 2), .int .i64 (lv ls 3), .int .i64 (lv ls 4), .int .i64 (lv ls 5), .int .i64 (lv ls 6), .int .i64 (lv ls 7), .int .i64 (ls.length : Int), .int .i64 hand, .slice oa ln ca] := kS5.set_ 1 _
        have HB6 := hide hb6
        have KR6 := hide kR6
        have KS6 := hide kS6
        have HPU2 := hide hPU
        clear hb6 kR6 kS6 hPU HFIT H3 HFT HFF HA u1 u3 u4 u5 hc2 hsz2 HPU kB eW
        go_upto_region 15 with fail
        generalize (((((w2.alloc (.cells #[.slice ot m ct, .int .i64 1] 137)).drewN q).setCell ⟨w.heap.size + 1, 1, none⟩ (.string (ty.extract 0 n))).alloc (.cells #[.int .u8 1] 5)).setCell ⟨w.heap.size + 1, 1, none⟩ (.string (ty.extract 0 n ++ ⟨#[1]⟩))) = Wv at *
        have n6 : w.heap.size + 1 + 1 ≠ w.heap.size + 1 := by omega
        have t0 : Wv.cell? ⟨w.heap.size + 1, 0, none⟩ = some (.bool there) := by rw [KS6.out.cell]; rfl
        have t1 : Wv.cell? ⟨w.heap.size + 1, 1, none⟩ = some (.string (ty.extract 0 n ++ ⟨#[1]⟩)) := by rw [KS6.out.cell]; rfl
        have t2 : Wv.cell? ⟨w.heap.size + 1, 2, none⟩ = some (.int .i64 (lv ls 0)) := by rw [KS6.out.cell]; rfl
        have t3 : Wv.cell? ⟨w.heap.size + 1, 3, none⟩ = some (.int .i64 (lv ls 1)) := by rw [KS6.out.cell]; rfl
        have t4 : Wv.cell? ⟨w.heap.size + 1, 4, none⟩ = some (.int .i64 (lv ls 2)) := by rw [KS6.out.cell]; rfl
        have t5 : Wv.cell? ⟨w.heap.size + 1, 5, none⟩ = some (.int .i64 (lv ls 3)) := by rw [KS6.out.cell]; rfl
        have t6 : Wv.cell? ⟨w.heap.size + 1, 6, none⟩ = some (.int .i64 (lv ls 4)) := by rw [KS6.out.cell]; rfl
        have t7 : Wv.cell? ⟨w.heap.size + 1, 7, none⟩ = some (.int .i64 (lv ls 5)) := by rw [KS6.out.cell]; rfl
        have t8 : Wv.cell? ⟨w.heap.size + 1, 8, none⟩ = some (.int .i64 (lv ls 6)) := by rw [KS6.out.cell]; rfl
        have t9 : Wv.cell? ⟨w.heap.size + 1, 9, none⟩ = some (.int .i64 (lv ls 7)) := by rw [KS6.out.cell]; rfl
        have t10 : Wv.cell? ⟨w.heap.size + 1, 10, none⟩ = some (.int .i64 (ls.length : Int)) := by rw [KS6.out.cell]; rfl
        have t11 : Wv.cell? ⟨w.heap.size + 1, 11, none⟩ = some (.int .i64 hand) := by rw [KS6.out.cell]; rfl
        have t12 : Wv.cell? ⟨w.heap.size + 1, 12, none⟩ = some (.slice oa ln ca) := by rw [KS6.out.cell]; rfl
        have q0 : Wv.cell? ⟨w.heap.size + 1 + 1, 0, none⟩ = some (.bool false) := by rw [KR6.out.cell]; rfl
        have q1 : Wv.cell? ⟨w.heap.size + 1 + 1, 1, none⟩ = some (.string ⟨#[]⟩) := by rw [KR6.out.cell]; rfl
        have q2 : Wv.cell? ⟨w.heap.size + 1 + 1, 2, none⟩ = some (.int .i64 0) := by rw [KR6.out.cell]; rfl
        have q3 : Wv.cell? ⟨w.heap.size + 1 + 1, 3, none⟩ = some (.int .i64 0) := by rw [KR6.out.cell]; rfl
        have q4 : Wv.cell? ⟨w.heap.size + 1 + 1, 4, none⟩ = some (.int .i64 0) := by rw [KR6.out.cell]; rfl
        have q5 : Wv.cell? ⟨w.heap.size + 1 + 1, 5, none⟩ = some (.int .i64 0) := by rw [KR6.out.cell]; rfl
        have q6 : Wv.cell? ⟨w.heap.size + 1 + 1, 6, none⟩ = some (.int .i64 0) := by rw [KR6.out.cell]; rfl
        have q7 : Wv.cell? ⟨w.heap.size + 1 + 1, 7, none⟩ = some (.int .i64 0) := by rw [KR6.out.cell]; rfl
        have q8 : Wv.cell? ⟨w.heap.size + 1 + 1, 8, none⟩ = some (.int .i64 0) := by rw [KR6.out.cell]; rfl
        have q9 : Wv.cell? ⟨w.heap.size + 1 + 1, 9, none⟩ = some (.int .i64 0) := by rw [KR6.out.cell]; rfl
        have q10 : Wv.cell? ⟨w.heap.size + 1 + 1, 10, none⟩ = some (.int .i64 0) := by rw [KR6.out.cell]; rfl
        have q11 : Wv.cell? ⟨w.heap.size + 1 + 1, 11, none⟩ = some (.int .i64 0) := by rw [KR6.out.cell]; rfl
        have q12 : Wv.cell? ⟨w.heap.size + 1 + 1, 12, none⟩ = some (.slice none 0 0) := by rw [KR6.out.cell]; rfl
        have rr0 : Wv.frozen? ⟨w.heap.size + 1 + 1, 0, none⟩ = false := KR6.out.frozen 0
        have rr1 : Wv.frozen? ⟨w.heap.size + 1 + 1, 1, none⟩ = false := KR6.out.frozen 1
        have rr2 : Wv.frozen? ⟨w.heap.size + 1 + 1, 2, none⟩ = false := KR6.out.frozen 2
        have rr3 : Wv.frozen? ⟨w.heap.size + 1 + 1, 3, none⟩ = false := KR6.out.frozen 3
        have rr4 : Wv.frozen? ⟨w.heap.size + 1 + 1, 4, none⟩ = false := KR6.out.frozen 4
        have rr5 : Wv.frozen? ⟨w.heap.size + 1 + 1, 5, none⟩ = false := KR6.out.frozen 5
        have rr6 : Wv.frozen? ⟨w.heap.size + 1 + 1, 6, none⟩ = false := KR6.out.frozen 6
        have rr7 : Wv.frozen? ⟨w.heap.size + 1 + 1, 7, none⟩ = false := KR6.out.frozen 7
        have rr8 : Wv.frozen? ⟨w.heap.size + 1 + 1, 8, none⟩ = false := KR6.out.frozen 8
        have rr9 : Wv.frozen? ⟨w.heap.size + 1 + 1, 9, none⟩ = false := KR6.out.frozen 9
        have rr10 : Wv.frozen? ⟨w.heap.size + 1 + 1, 10, none⟩ = false := KR6.out.frozen 10
        have rr11 : Wv.frozen? ⟨w.heap.size + 1 + 1, 11, none⟩ = false := KR6.out.frozen 11
        have rr12 : Wv.frozen? ⟨w.heap.size + 1 + 1, 12, none⟩ = false := KR6.out.frozen 12
        go_wp2
        rw [put13_eq]
        have kZ := blk13 (.bool there) (.string (ty.extract 0 n ++ ⟨#[1]⟩)) (.int .i64 (lv ls 0)) (.int .i64 (lv ls 1)) (.int .i64 (lv ls 2)) (.int .i64 (lv ls 3)) (.int .i64 (lv ls 4)) (.int .i64 (lv ls 5)) (.int .i64 (lv ls 6)) (.int .i64 (lv ls 7)) (.int .i64 (ls.length : Int)) (.int .i64 hand) (.slice oa ln ca) KR6.out rfl
        have hB := below13 (.bool there) (.string (ty.extract 0 n ++ ⟨#[1]⟩)) (.int .i64 (lv ls 0)) (.int .i64 (lv ls 1)) (.int .i64 (lv ls 2)) (.int .i64 (lv ls 3)) (.int .i64 (lv ls 4)) (.int .i64 (lv ls 5)) (.int .i64 (lv ls 6)) (.int .i64 (lv ls 7)) (.int .i64 (ls.length : Int)) (.int .i64 hand) (.slice oa ln ca) HB6.out (show w.heap.size ≤ w.heap.size + 1 + 1 by omega)
        generalize put13 Wv (w.heap.size + 1 + 1) (.bool there) (.string (ty.extract 0 n ++ ⟨#[1]⟩)) (.int .i64 (lv ls 0)) (.int .i64 (lv ls 1)) (.int .i64 (lv ls 2)) (.int .i64 (lv ls 3)) (.int .i64 (lv ls 4)) (.int .i64 (lv ls 5)) (.int .i64 (lv ls 6)) (.int .i64 (lv ls 7)) (.int .i64 (ls.length : Int)) (.int .i64 hand) (.slice oa ln ca) = Wz at *
        have z0 : Wz.cell? ⟨w.heap.size + 1 + 1, 0, none⟩ = some (.bool there) := by rw [kZ.cell]; rfl
        have z1 : Wz.cell? ⟨w.heap.size + 1 + 1, 1, none⟩ = some (.string (ty.extract 0 n ++ ⟨#[1]⟩)) := by rw [kZ.cell]; rfl
        have z2 : Wz.cell? ⟨w.heap.size + 1 + 1, 2, none⟩ = some (.int .i64 (lv ls 0)) := by rw [kZ.cell]; rfl
        have z3 : Wz.cell? ⟨w.heap.size + 1 + 1, 3, none⟩ = some (.int .i64 (lv ls 1)) := by rw [kZ.cell]; rfl
        have z4 : Wz.cell? ⟨w.heap.size + 1 + 1, 4, none⟩ = some (.int .i64 (lv ls 2)) := by rw [kZ.cell]; rfl
        have z5 : Wz.cell? ⟨w.heap.size + 1 + 1, 5, none⟩ = some (.int .i64 (lv ls 3)) := by rw [kZ.cell]; rfl
        have z6 : Wz.cell? ⟨w.heap.size + 1 + 1, 6, none⟩ = some (.int .i64 (lv ls 4)) := by rw [kZ.cell]; rfl
        have z7 : Wz.cell? ⟨w.heap.size + 1 + 1, 7, none⟩ = some (.int .i64 (lv ls 5)) := by rw [kZ.cell]; rfl
        have z8 : Wz.cell? ⟨w.heap.size + 1 + 1, 8, none⟩ = some (.int .i64 (lv ls 6)) := by rw [kZ.cell]; rfl
        have z9 : Wz.cell? ⟨w.heap.size + 1 + 1, 9, none⟩ = some (.int .i64 (lv ls 7)) := by rw [kZ.cell]; rfl
        have z10 : Wz.cell? ⟨w.heap.size + 1 + 1, 10, none⟩ = some (.int .i64 (ls.length : Int)) := by rw [kZ.cell]; rfl
        have z11 : Wz.cell? ⟨w.heap.size + 1 + 1, 11, none⟩ = some (.int .i64 hand) := by rw [kZ.cell]; rfl
        have z12 : Wz.cell? ⟨w.heap.size + 1 + 1, 12, none⟩ = some (.slice oa ln ca) := by rw [kZ.cell]; rfl
        refine bodyPost_ret (v := .tuple #[.agg #[.bool there, .string (ty.extract 0 n ++ ⟨#[1]⟩), .int .i64 (lv ls 0), .int .i64 (lv ls 1), .int .i64 (lv ls 2), .int .i64 (lv ls 3), .int .i64 (lv ls 4), .int .i64 (lv ls 5), .int .i64 (lv ls 6), .int .i64 (lv ls 7), .int .i64 (ls.length : Int), .int .i64 hand, .slice oa ln ca], .int .i64 0]) ?_ rfl ⟨by rw [HPU2.out] <;> first | rfl | simp, hB⟩
        simp only [results, hres]
        go_simp
end Go.Proofs.Ytjflllfkgbhemaa
