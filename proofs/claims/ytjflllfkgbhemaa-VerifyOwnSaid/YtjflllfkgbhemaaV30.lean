/- The walk of fuel. Conditions: the bounds that are named. -/
import Derived.Test.YtjflllfkgbhemaaVs
namespace Go.Proofs.Ytjflllfkgbhemaa
open Go.RowKit
set_option linter.unusedVariables false in
set_option linter.unusedSimpArgs false in
set_option maxRecDepth 100000 in
set_option maxHeartbeats 8000000 in
theorem fuel_i (w : World) (vb rb : Nat) (p : PV) (P : Prg) (ats : List St) (h : VMem w vb rb p P ats) (hn : P.cd.length ≤ 262144) (hf : Flows P) :
    Calls Try.prog 35 #[.pointer (some ⟨vb, 0, none⟩)] w fun en w' => ∃ v, en = .returned v ∧ Vw w' v (fuelK P P.cd.length) ∧ Below w.heap.size w w' := by
  have v5 : w.cell? ⟨vb, 5, none⟩ = some (.slice p.ca P.cd.length p.cc) := by rw [h.v.cell, ← h.m.cl]; rfl
  have HV := hide h
  have HF := hide hf
  clear h hf
  have u1 := IntWalk.i64_in ((P.cd.length : Int) - 1) (by omega)
  have hmk := make_ints w P.cd.length (by omega)
  go_enter Try.func35, Try.ntmps35
  go_wp2_with fail
  refine wp_scope_head 0 (fun a' w' => ∃ (k : Nat) (z : Int), (z + 1 + (k : Int) = (P.cd.length : Int) ∧ -1 ≤ z) ∧ Below w.heap.size w w' ∧ Blk w' w.heap.size 3 (ints (fuelK P k)).toArray ∧ ∃ (u1 u6 u7 u8 u9 u10 u11 u12 u13 u14 u15 u16 u17 u18 u19 u20 u21 u22 u23 u24 u25 u26 u27 u28 u29 u30 u31 u32 u33 u34 u35 u36 u37 u38 u39 u40 u41 u42 u43 u44 u45 u46 u47 u48 u49 u50 u51 u52 u53 u54 u55 u56 u57 u58 u59 u60 u61 u62 u63 u64 u65 u66 u67 u68 u69 u70 u71 u72 u73 u74 u75 u76 u77 u78 u79 u80 u81 u82 u83 u84 u85 u86 u87 u88 u89 u90 u91 u92 u93 u94 u95 u96 u97 : Value), a' = { tmps := #[.pointer (some ⟨vb, 0, none⟩), u1, .slice none 0 0, .slice p.ca P.cd.length p.cc, .slice (some ⟨w.heap.size, 0, none⟩) P.cd.length P.cd.length, .int .i64 z, u6, u7, u8, u9, u10, u11, u12, u13, u14, u15, u16, u17, u18, u19, u20, u21, u22, u23, u24, u25, u26, u27, u28, u29, u30, u31, u32, u33, u34, u35, u36, u37, u38, u39, u40, u41, u42, u43, u44, u45, u46, u47, u48, u49, u50, u51, u52, u53, u54, u55, u56, u57, u58, u59, u60, u61, u62, u63, u64, u65, u66, u67, u68, u69, u70, u71, u72, u73, u74, u75, u76, u77, u78, u79, u80, u81, u82, u83, u84, u85, u86, u87, u88, u89, u90, u91, u92, u93, u94, u95, u96, u97], defers := [] }) (fun a' _ => (intOf (a'.tmps.getD 5 undef) + 1).toNat) rfl ?_ ?_
  · intro hrest
    have HR := hide hrest
    clear hrest
    go_wp2_with fail
    go_step3
    go_step
    go_step
    exact HR.out _ _ ⟨0, (P.cd.length : Int) - 1, by omega, (Below.refl _ w).alloc (Nat.le_refl _) _, Blk.new w 3 _, _, _, _, _, _, _, _, _, _, _, _, _, _, _, _, _, _, _, _, _, _, _, _, _, _, _, _, _, _, _, _, _, _, _, _, _, _, _, _, _, _, _, _, _, _, _, _, _, _, _, _, _, _, _, _, _, _, _, _, _, _, _, _, _, _, _, _, _, _, _, _, _, _, _, _, _, _, _, _, _, _, _, _, _, _, _, _, _, _, _, _, _, _, rfl⟩
  · rintro a' w' ⟨k, z, ⟨hk, hk1⟩, hb, hB, u1', u6, u7, u8, u9, u10, u11, u12, u13, u14, u15, u16, u17, u18, u19, u20, u21, u22, u23, u24, u25, u26, u27, u28, u29, u30, u31, u32, u33, u34, u35, u36, u37, u38, u39, u40, u41, u42, u43, u44, u45, u46, u47, u48, u49, u50, u51, u52, u53, u54, u55, u56, u57, u58, u59, u60, u61, u62, u63, u64, u65, u66, u67, u68, u69, u70, u71, u72, u73, u74, u75, u76, u77, u78, u79, u80, u81, u82, u83, u84, u85, u86, u87, u88, u89, u90, u91, u92, u93, u94, u95, u96, u97, rfl⟩
    by_cases hz : z < 0
    · obtain rfl : z = -1 := by omega
      have hkl : k = P.cd.length := by omega
      subst hkl
      have HB := hide hB
      have Hb := hide hb
      clear hB hb
      go_wp2_with fail
      simp only [Exit.jump]
      go_ret
      exact ⟨.slice (some ⟨w.heap.size, 0, none⟩) P.cd.length P.cd.length, rfl, ⟨some ⟨w.heap.size, 0, none⟩, P.cd.length, by rw [fuelK_len], fun i x hx => ⟨_, rfl, HB.out.lt, by rw [HB.out.cell]; simp [ints, hx]⟩⟩, Hb.out⟩
    · obtain ⟨n, rfl⟩ := Int.eq_ofNat_of_zero_le (show 0 ≤ z by omega)
      have hnl : n < P.cd.length := by omega
      obtain ⟨na, g, ena, hna, hg, hgl, q0, q1, q2, q3, q4⟩ := code_at HV.out.m (a := (n : Int)) ⟨by omega, by simpa using hnl⟩
      obtain rfl : na = n := by omega
      obtain ⟨y, hy⟩ : ∃ y, P.cd[na]? = some y := ⟨_, List.getElem?_eq_getElem hnl⟩
      have hxe : insAt P (na : Int) = y := by simp [insAt, hy]
      have hfl := HF.out na y hy
      rw [hxe] at q0 q1 q2 q3 q4
      obtain ⟨op, a, b, c, d⟩ := y
      simp only at q0 q1 q2 q3 q4
      obtain ⟨f, hf⟩ : ∃ f, fuelK P k = f := ⟨_, rfl⟩
      rw [hf] at hB
      have hfl2 : f.length = P.cd.length := by rw [← hf, fuelK_len]
      have h62 : F62 f := by rw [← hf]; exact fuelK_in P k
      have hF1 : fuelK P (k + 1) = f.set na (fuelStep P na ⟨op, a, b, c, d⟩ f) := by
        rw [fuelK, hf, show P.cd.length - 1 - k = na from by omega, hxe]
      have H62 := hide h62
      have hFL := hide hfl
      have hb1 : Below w.heap.size w (w'.alloc (.cells #[.int .i64 op, .int .i64 a, .int .i64 b, .int .i64 c, .int .i64 d] 46)) := hb.alloc hb.size _
      have p0 : w'.cell? ⟨g, na * 5, none⟩ = some (.int .i64 op) := (hb.cell (by exact hgl)).trans q0
      have p1 : w'.cell? ⟨g, na * 5 + 1, none⟩ = some (.int .i64 a) := (hb.cell (by exact hgl)).trans q1
      have p2 : w'.cell? ⟨g, na * 5 + 2, none⟩ = some (.int .i64 b) := (hb.cell (by exact hgl)).trans q2
      have p3 : w'.cell? ⟨g, na * 5 + 3, none⟩ = some (.int .i64 c) := (hb.cell (by exact hgl)).trans q3
      have p4 : w'.cell? ⟨g, na * 5 + 4, none⟩ = some (.int .i64 d) := (hb.cell (by exact hgl)).trans q4
      have fz : (w'.alloc (.cells #[.int .i64 op, .int .i64 a, .int .i64 b, .int .i64 c, .int .i64 d] 46)).frozen? ⟨w.heap.size, na, none⟩ = false := (hB.alloc (.cells #[.int .i64 op, .int .i64 a, .int .i64 b, .int .i64 c, .int .i64 d] 46)).frozen na
      have cn : (w'.alloc (.cells #[.int .i64 op, .int .i64 a, .int .i64 b, .int .i64 c, .int .i64 d] 46)).cell? ⟨w.heap.size, na, none⟩ = some (.int .i64 (fAt f ((na : Nat) : Int))) := by rw [(hB.alloc (.cells #[.int .i64 op, .int .i64 a, .int .i64 b, .int .i64 c, .int .i64 d] 46)).cell]; exact ints_at (by rw [hfl2]; omega)
      have w1 := IntWalk.i64_in ((na : Int) - 1) (by omega)
      have w2 := IntWalk.i64_in ((na : Int) + 1) (by omega)
      have w3 := IntWalk.i64_in ((na : Int) + 2) (by omega)
      simp only [hg]
      clear q0 q1 q2 q3 q4 hy hna ena hnl hf hz
      by_cases hop : op = 0 ∨ op = 27
      · as_aux_lemma =>
          have hfs : fuelStep P na ⟨op, a, b, c, d⟩ f = 1 := by unfold fuelStep; rw [if_pos]; exact hop
          have hend : Below w.heap.size w ((w'.alloc (.cells #[.int .i64 op, .int .i64 a, .int .i64 b, .int .i64 c, .int .i64 d] 46)).setCell ⟨w.heap.size, na, none⟩ (.int .i64 (1))) ∧ Blk ((w'.alloc (.cells #[.int .i64 op, .int .i64 a, .int .i64 b, .int .i64 c, .int .i64 d] 46)).setCell ⟨w.heap.size, na, none⟩ (.int .i64 (1))) w.heap.size 3 (ints (fuelK P (k + 1))).toArray := ⟨hb1.setCell (by exact Nat.le_refl _) _, by rw [hF1, hfs, ← ints_set]; exact (hB.alloc (.cells #[.int .i64 op, .int .i64 a, .int .i64 b, .int .i64 c, .int .i64 d] 46)).set_ na _⟩
          have hend2 : Below w.heap.size w ((w'.alloc (.cells #[.int .i64 op, .int .i64 a, .int .i64 b, .int .i64 c, .int .i64 d] 46)).drew.setCell ⟨w.heap.size, na, none⟩ (.int .i64 (1))) ∧ Blk ((w'.alloc (.cells #[.int .i64 op, .int .i64 a, .int .i64 b, .int .i64 c, .int .i64 d] 46)).drew.setCell ⟨w.heap.size, na, none⟩ (.int .i64 (1))) w.heap.size 3 (ints (fuelK P (k + 1))).toArray := ⟨hb1.drew.setCell (by exact Nat.le_refl _) _, by rw [hF1, hfs, ← ints_set]; exact (hB.alloc (.cells #[.int .i64 op, .int .i64 a, .int .i64 b, .int .i64 c, .int .i64 d] 46)).drew.set_ na _⟩
          have HEND := hide hend
          have HEND2 := hide hend2
          clear hend hend2 hfs hF1 hfl hb1 hB hb hxe hfl2 h62 HV v5 hmk
          rcases hop with rfl | rfl
          all_goals
            go_wp2_with fail
            go_step3
            exact ⟨rfl, ⟨k + 1, (na : Int) - 1, by omega, HEND.out.1, HEND.out.2, _, _, _, _, _, _, _, _, _, _, _, _, _, _, _, _, _, _, _, _, _, _, _, _, _, _, _, _, _, _, _, _, _, _, _, _, _, _, _, _, _, _, _, _, _, _, _, _, _, _, _, _, _, _, _, _, _, _, _, _, _, _, _, _, _, _, _, _, _, _, _, _, _, _, _, _, _, _, _, _, _, _, _, _, _, _, _, _, _, _, _, _, _, rfl⟩, by first | (simp [intOf]; done) | (simp [intOf]; omega)⟩
      · have o0 : op ≠ 0 := fun e => hop (.inl e)
        have o27 : op ≠ 27 := fun e => hop (.inr e)
        by_cases o22 : op = 22
        · skip
          as_aux_lemma =>
            obtain ⟨ha0, ha1⟩ := hFL.out.j o22
            simp only at ha0 ha1
            obtain ⟨ja, hja⟩ := Int.eq_ofNat_of_zero_le ha0
            simp only [hja, Int.toNat_natCast] at ha1
            have ca : (w'.alloc (.cells #[.int .i64 op, .int .i64 a, .int .i64 b, .int .i64 c, .int .i64 d] 46)).cell? ⟨w.heap.size, ja, none⟩ = some (.int .i64 (fAt f ((ja : Nat) : Int))) := by rw [(hB.alloc (.cells #[.int .i64 op, .int .i64 a, .int .i64 b, .int .i64 c, .int .i64 d] 46)).cell]; exact ints_at (by rw [hfl2]; omega)
            have ha := fAt_in H62.out ((ja : Nat) : Int)
            generalize hfa : fAt f ((ja : Nat) : Int) = fa at *
            have hfs : fuelStep P na ⟨op, a, b, c, d⟩ f = plusV 1 fa := by unfold fuelStep; rw [if_neg hop, if_pos o22]; simp only [hja, hfa]
            have hend : Below w.heap.size w ((w'.alloc (.cells #[.int .i64 op, .int .i64 a, .int .i64 b, .int .i64 c, .int .i64 d] 46)).setCell ⟨w.heap.size, na, none⟩ (.int .i64 (plusV 1 fa))) ∧ Blk ((w'.alloc (.cells #[.int .i64 op, .int .i64 a, .int .i64 b, .int .i64 c, .int .i64 d] 46)).setCell ⟨w.heap.size, na, none⟩ (.int .i64 (plusV 1 fa))) w.heap.size 3 (ints (fuelK P (k + 1))).toArray := ⟨hb1.setCell (by exact Nat.le_refl _) _, by rw [hF1, hfs, ← ints_set]; exact (hB.alloc (.cells #[.int .i64 op, .int .i64 a, .int .i64 b, .int .i64 c, .int .i64 d] 46)).set_ na _⟩
            have hend2 : Below w.heap.size w ((w'.alloc (.cells #[.int .i64 op, .int .i64 a, .int .i64 b, .int .i64 c, .int .i64 d] 46)).drew.setCell ⟨w.heap.size, na, none⟩ (.int .i64 (plusV 1 fa))) ∧ Blk ((w'.alloc (.cells #[.int .i64 op, .int .i64 a, .int .i64 b, .int .i64 c, .int .i64 d] 46)).drew.setCell ⟨w.heap.size, na, none⟩ (.int .i64 (plusV 1 fa))) w.heap.size 3 (ints (fuelK P (k + 1))).toArray := ⟨hb1.drew.setCell (by exact Nat.le_refl _) _, by rw [hF1, hfs, ← ints_set]; exact (hB.alloc (.cells #[.int .i64 op, .int .i64 a, .int .i64 b, .int .i64 c, .int .i64 d] 46)).drew.set_ na _⟩
            have HEND := hide hend
            have HEND2 := hide hend2
            clear hend hend2 hfs hF1 hfl hb1 hB hb hxe hfl2 h62 HV v5 hmk
            subst hja
            subst o22
            clear hop o0 o27
            go_wp2_with (go_at_call 52
                         refine (plus_s _ 1 fa (by omega) (by omega) (by omega) (by omega)).mono ?_
                         rintro en w5 ⟨rfl, rfl⟩)
            go_step3
            exact ⟨rfl, ⟨k + 1, (na : Int) - 1, by omega, HEND.out.1, HEND.out.2, _, _, _, _, _, _, _, _, _, _, _, _, _, _, _, _, _, _, _, _, _, _, _, _, _, _, _, _, _, _, _, _, _, _, _, _, _, _, _, _, _, _, _, _, _, _, _, _, _, _, _, _, _, _, _, _, _, _, _, _, _, _, _, _, _, _, _, _, _, _, _, _, _, _, _, _, _, _, _, _, _, _, _, _, _, _, _, _, _, _, _, _, _, rfl⟩, by first | (simp [intOf]; done) | (simp [intOf]; omega)⟩
        · by_cases o23 : op = 23
          · skip
            as_aux_lemma =>
              obtain ⟨⟨ha0, ha1⟩, h1⟩ := hFL.out.e o23
              simp only at ha0 ha1
              obtain ⟨ja, hja⟩ := Int.eq_ofNat_of_zero_le ha0
              simp only [hja, Int.toNat_natCast] at ha1
              have ca : (w'.alloc (.cells #[.int .i64 op, .int .i64 a, .int .i64 b, .int .i64 c, .int .i64 d] 46)).cell? ⟨w.heap.size, ja, none⟩ = some (.int .i64 (fAt f ((ja : Nat) : Int))) := by rw [(hB.alloc (.cells #[.int .i64 op, .int .i64 a, .int .i64 b, .int .i64 c, .int .i64 d] 46)).cell]; exact ints_at (by rw [hfl2]; omega)
              have ha := fAt_in H62.out ((ja : Nat) : Int)
              have cb : (w'.alloc (.cells #[.int .i64 op, .int .i64 a, .int .i64 b, .int .i64 c, .int .i64 d] 46)).cell? ⟨w.heap.size, na + 1, none⟩ = some (.int .i64 (fAt f ((na + 1 : Nat) : Int))) := by rw [(hB.alloc (.cells #[.int .i64 op, .int .i64 a, .int .i64 b, .int .i64 c, .int .i64 d] 46)).cell]; exact ints_at (by rw [hfl2]; omega)
              have hb2 := fAt_in H62.out ((na + 1 : Nat) : Int)
              generalize hfa : fAt f ((ja : Nat) : Int) = fa at *
              generalize hfb : fAt f ((na + 1 : Nat) : Int) = fb at *
              obtain ⟨mx, hmx⟩ : ∃ mx, (if fb < fa then fa else fb) = mx := ⟨_, rfl⟩
              have hmi : 0 ≤ mx ∧ mx ≤ 4611686018427387904 := by rw [← hmx]; split <;> omega
              have hfs : fuelStep P na ⟨op, a, b, c, d⟩ f = plusV 1 mx := by unfold fuelStep; rw [if_neg hop, if_neg o22, if_pos o23]; simp only [hja, hfa, hfb, hmx]
              have hend : Below w.heap.size w ((w'.alloc (.cells #[.int .i64 op, .int .i64 a, .int .i64 b, .int .i64 c, .int .i64 d] 46)).setCell ⟨w.heap.size, na, none⟩ (.int .i64 (plusV 1 mx))) ∧ Blk ((w'.alloc (.cells #[.int .i64 op, .int .i64 a, .int .i64 b, .int .i64 c, .int .i64 d] 46)).setCell ⟨w.heap.size, na, none⟩ (.int .i64 (plusV 1 mx))) w.heap.size 3 (ints (fuelK P (k + 1))).toArray := ⟨hb1.setCell (by exact Nat.le_refl _) _, by rw [hF1, hfs, ← ints_set]; exact (hB.alloc (.cells #[.int .i64 op, .int .i64 a, .int .i64 b, .int .i64 c, .int .i64 d] 46)).set_ na _⟩
              have hend2 : Below w.heap.size w ((w'.alloc (.cells #[.int .i64 op, .int .i64 a, .int .i64 b, .int .i64 c, .int .i64 d] 46)).drew.setCell ⟨w.heap.size, na, none⟩ (.int .i64 (plusV 1 mx))) ∧ Blk ((w'.alloc (.cells #[.int .i64 op, .int .i64 a, .int .i64 b, .int .i64 c, .int .i64 d] 46)).drew.setCell ⟨w.heap.size, na, none⟩ (.int .i64 (plusV 1 mx))) w.heap.size 3 (ints (fuelK P (k + 1))).toArray := ⟨hb1.drew.setCell (by exact Nat.le_refl _) _, by rw [hF1, hfs, ← ints_set]; exact (hB.alloc (.cells #[.int .i64 op, .int .i64 a, .int .i64 b, .int .i64 c, .int .i64 d] 46)).drew.set_ na _⟩
              have HEND := hide hend
              have HEND2 := hide hend2
              clear hend hend2 hfs hF1 hfl hb1 hB hb hxe hfl2 h62 HV v5 hmk
              subst hja
              subst o23
              clear hop o0 o27
              have e1 : (0 : Int) ≤ (na : Int) + 1 := by omega
              have e2 : (na : Int) + 1 < (P.cd.length : Int) := by omega
              have e6 : na < P.cd.length := by omega
              go_upto_region 15 with fail
              have kx := (Blk.new w' 46 #[.int .i64 23, .int .i64 (ja : Int), .int .i64 b, .int .i64 c, .int .i64 d]).drew
              have x1 : (w'.alloc (.cells #[.int .i64 23, .int .i64 (ja : Int), .int .i64 b, .int .i64 c, .int .i64 d] 46)).drew.cell? ⟨w'.heap.size, 1, none⟩ = some (.int .i64 (ja : Int)) := by rw [kx.cell]; rfl
              have cnd : (w'.alloc (.cells #[.int .i64 23, .int .i64 (ja : Int), .int .i64 b, .int .i64 c, .int .i64 d] 46)).drew.cell? _ = _ := cn
              have cad : (w'.alloc (.cells #[.int .i64 23, .int .i64 (ja : Int), .int .i64 b, .int .i64 c, .int .i64 d] 46)).drew.cell? _ = _ := ca
              have cbd : (w'.alloc (.cells #[.int .i64 23, .int .i64 (ja : Int), .int .i64 b, .int .i64 c, .int .i64 d] 46)).drew.cell? _ = _ := cb
              have fzd : (w'.alloc (.cells #[.int .i64 23, .int .i64 (ja : Int), .int .i64 b, .int .i64 c, .int .i64 d] 46)).drew.frozen? _ = _ := fz
              refine wp_region_still_tail 15 (by kernel_rfl) (by kernel_rfl) ?_
              simp only [List.take_succ_cons, List.take_zero, List.drop_succ_cons, List.drop_zero]
              change wpStill _ _ (w'.alloc (.cells #[.int .i64 23, .int .i64 (ja : Int), .int .i64 b, .int .i64 c, .int .i64 d] 46)).drew _ _ _
              clear kx HEND2
              repeat still_step
              still_call (plus_s _ 1 mx (by omega) (by omega) (by omega) (by omega))
              repeat still_step
              refine wpStill_nil ?_
              change wpList _ _ _ _ _ (w'.alloc (.cells #[.int .i64 23, .int .i64 (ja : Int), .int .i64 b, .int .i64 c, .int .i64 d] 46)).drew
              go_wp2_with fail
              go_step3
              exact ⟨rfl, ⟨k + 1, (na : Int) - 1, by omega, HEND.out.1.drew, HEND.out.2.drew, _, _, _, _, _, _, _, _, _, _, _, _, _, _, _, _, _, _, _, _, _, _, _, _, _, _, _, _, _, _, _, _, _, _, _, _, _, _, _, _, _, _, _, _, _, _, _, _, _, _, _, _, _, _, _, _, _, _, _, _, _, _, _, _, _, _, _, _, _, _, _, _, _, _, _, _, _, _, _, _, _, _, _, _, _, _, _, _, _, _, _, _, _, rfl⟩, by first | (simp [intOf]; done) | (simp [intOf]; omega)⟩
          · by_cases o24 : op = 24
            · skip
              as_aux_lemma =>
                obtain ⟨h2, ha0, hale, hpx⟩ := hFL.out.l o24
                simp only at ha0 hale
                obtain ⟨ja, hja⟩ := Int.eq_ofNat_of_zero_le ha0
                obtain ⟨nx, gx, enx, hnx, hgx, hgxl, _, t1, _⟩ := code_at HV.out.m (a := ((na + 1 : Nat) : Int)) ⟨by omega, by simp; omega⟩
                obtain rfl : nx = na + 1 := by omega
                rw [hg] at hgx
                obtain rfl : g = gx := by injection hgx with e; injection e
                obtain ⟨hx0, hx1⟩ := hpx
                obtain ⟨jx, hxa⟩ := Int.eq_ofNat_of_zero_le hx0
                simp only [hxa, Int.toNat_natCast] at hx1
                rw [hxa] at t1
                have cx : (w'.alloc (.cells #[.int .i64 op, .int .i64 a, .int .i64 b, .int .i64 c, .int .i64 d] 46)).cell? ⟨g, (na + 1) * 5 + 1, none⟩ = some (.int .i64 (jx : Int)) := (hb1.cell (by exact hgxl)).trans t1
                have ca : (w'.alloc (.cells #[.int .i64 op, .int .i64 a, .int .i64 b, .int .i64 c, .int .i64 d] 46)).cell? ⟨w.heap.size, jx, none⟩ = some (.int .i64 (fAt f ((jx : Nat) : Int))) := by rw [(hB.alloc (.cells #[.int .i64 op, .int .i64 a, .int .i64 b, .int .i64 c, .int .i64 d] 46)).cell]; exact ints_at (by rw [hfl2]; omega)
                have ha := fAt_in H62.out ((jx : Nat) : Int)
                have cb : (w'.alloc (.cells #[.int .i64 op, .int .i64 a, .int .i64 b, .int .i64 c, .int .i64 d] 46)).cell? ⟨w.heap.size, na + 2, none⟩ = some (.int .i64 (fAt f ((na + 2 : Nat) : Int))) := by rw [(hB.alloc (.cells #[.int .i64 op, .int .i64 a, .int .i64 b, .int .i64 c, .int .i64 d] 46)).cell]; exact ints_at (by rw [hfl2]; omega)
                have hb2 := fAt_in H62.out ((na + 2 : Nat) : Int)
                generalize hfa : fAt f ((jx : Nat) : Int) = fa at *
                generalize hfb : fAt f ((na + 2 : Nat) : Int) = fb at *
                have hfs : fuelStep P na ⟨op, a, b, c, d⟩ f = plusV (plusV 1 (timesI (ja : Int) (plusV 1 fb))) (plusV 1 fa) := by unfold fuelStep; rw [if_neg hop, if_neg o22, if_neg o23, if_pos o24]; simp only [hja, hfa, hfb, hxa]
                have hend : Below w.heap.size w ((w'.alloc (.cells #[.int .i64 op, .int .i64 a, .int .i64 b, .int .i64 c, .int .i64 d] 46)).setCell ⟨w.heap.size, na, none⟩ (.int .i64 (plusV (plusV 1 (timesI (ja : Int) (plusV 1 fb))) (plusV 1 fa)))) ∧ Blk ((w'.alloc (.cells #[.int .i64 op, .int .i64 a, .int .i64 b, .int .i64 c, .int .i64 d] 46)).setCell ⟨w.heap.size, na, none⟩ (.int .i64 (plusV (plusV 1 (timesI (ja : Int) (plusV 1 fb))) (plusV 1 fa)))) w.heap.size 3 (ints (fuelK P (k + 1))).toArray := ⟨hb1.setCell (by exact Nat.le_refl _) _, by rw [hF1, hfs, ← ints_set]; exact (hB.alloc (.cells #[.int .i64 op, .int .i64 a, .int .i64 b, .int .i64 c, .int .i64 d] 46)).set_ na _⟩
                have hend2 : Below w.heap.size w ((w'.alloc (.cells #[.int .i64 op, .int .i64 a, .int .i64 b, .int .i64 c, .int .i64 d] 46)).drew.setCell ⟨w.heap.size, na, none⟩ (.int .i64 (plusV (plusV 1 (timesI (ja : Int) (plusV 1 fb))) (plusV 1 fa)))) ∧ Blk ((w'.alloc (.cells #[.int .i64 op, .int .i64 a, .int .i64 b, .int .i64 c, .int .i64 d] 46)).drew.setCell ⟨w.heap.size, na, none⟩ (.int .i64 (plusV (plusV 1 (timesI (ja : Int) (plusV 1 fb))) (plusV 1 fa)))) w.heap.size 3 (ints (fuelK P (k + 1))).toArray := ⟨hb1.drew.setCell (by exact Nat.le_refl _) _, by rw [hF1, hfs, ← ints_set]; exact (hB.alloc (.cells #[.int .i64 op, .int .i64 a, .int .i64 b, .int .i64 c, .int .i64 d] 46)).drew.set_ na _⟩
                have HEND := hide hend
                have HEND2 := hide hend2
                clear hend hend2 hfs hF1 hfl hb1 hB hb hxe hfl2 h62 HV v5 hmk
                have hq1 := plusV_in (a := 1) (b := fb) (by omega) (by omega) (by omega)
                have hq2 := timesI_in (ja : Int) (plusV 1 fb)
                have hq3 := plusV_in (a := 1) (b := timesI (ja : Int) (plusV 1 fb)) (by omega) hq2.1 hq2.2
                have hq4 := plusV_in (a := 1) (b := fa) (by omega) (by omega) (by omega)
                subst hja
                subst o24
                clear hop o0 o27 t1 hgx hgxl hxa hx0 enx
                have e1 : (0 : Int) ≤ (na : Int) + 2 := by omega
                have e2 : (na : Int) + 2 < (P.cd.length : Int) := by omega
                have e3 : ((na : Int) + 2).toNat = na + 2 := by omega
                have e4 : (0 : Int) ≤ (na : Int) + 1 := by omega
                have e5 : (na : Int) + 1 < (P.cd.length : Int) := by omega
                have e6 : na < P.cd.length := by omega
                go_upto_region 17 with fail
                have kx := (Blk.new w' 46 #[.int .i64 24, .int .i64 (ja : Int), .int .i64 b, .int .i64 c, .int .i64 d]).drew
                have x1 : (w'.alloc (.cells #[.int .i64 24, .int .i64 (ja : Int), .int .i64 b, .int .i64 c, .int .i64 d] 46)).drew.cell? ⟨w'.heap.size, 1, none⟩ = some (.int .i64 (ja : Int)) := by rw [kx.cell]; rfl
                have cnd : (w'.alloc (.cells #[.int .i64 24, .int .i64 (ja : Int), .int .i64 b, .int .i64 c, .int .i64 d] 46)).drew.cell? _ = _ := cn
                have cad : (w'.alloc (.cells #[.int .i64 24, .int .i64 (ja : Int), .int .i64 b, .int .i64 c, .int .i64 d] 46)).drew.cell? _ = _ := ca
                have cbd : (w'.alloc (.cells #[.int .i64 24, .int .i64 (ja : Int), .int .i64 b, .int .i64 c, .int .i64 d] 46)).drew.cell? _ = _ := cb
                have cxd : (w'.alloc (.cells #[.int .i64 24, .int .i64 (ja : Int), .int .i64 b, .int .i64 c, .int .i64 d] 46)).drew.cell? _ = _ := cx
                have fzd : (w'.alloc (.cells #[.int .i64 24, .int .i64 (ja : Int), .int .i64 b, .int .i64 c, .int .i64 d] 46)).drew.frozen? _ = _ := fz
                refine wp_region_still_tail 24 (by kernel_rfl) (by kernel_rfl) ?_
                simp only [List.take_succ_cons, List.take_zero, List.drop_succ_cons, List.drop_zero]
                change wpStill _ _ (w'.alloc (.cells #[.int .i64 24, .int .i64 (ja : Int), .int .i64 b, .int .i64 c, .int .i64 d] 46)).drew _ _ _
                clear kx HEND2
                repeat still_step
                still_call (plus_s _ 1 fb (by omega) (by omega) (by omega) (by omega))
                repeat still_step
                still_call (times_s _ (ja : Int) (plusV 1 fb) (by omega) (by omega) hq1.1 hq1.2)
                repeat still_step
                still_call (plus_s _ 1 (timesI (ja : Int) (plusV 1 fb)) (by omega) (by omega) hq2.1 hq2.2)
                repeat still_step
                still_call (plus_s _ 1 fa (by omega) (by omega) (by omega) (by omega))
                repeat still_step
                still_call (plus_s _ (plusV 1 (timesI (ja : Int) (plusV 1 fb))) (plusV 1 fa) hq3.1 hq3.2 hq4.1 hq4.2)
                repeat still_step
                refine wpStill_nil ?_
                change wpList _ _ _ _ _ (w'.alloc (.cells #[.int .i64 24, .int .i64 (ja : Int), .int .i64 b, .int .i64 c, .int .i64 d] 46)).drew
                go_wp2_with fail
                go_step3
                exact ⟨rfl, ⟨k + 1, (na : Int) - 1, by omega, HEND.out.1.drew, HEND.out.2.drew, _, _, _, _, _, _, _, _, _, _, _, _, _, _, _, _, _, _, _, _, _, _, _, _, _, _, _, _, _, _, _, _, _, _, _, _, _, _, _, _, _, _, _, _, _, _, _, _, _, _, _, _, _, _, _, _, _, _, _, _, _, _, _, _, _, _, _, _, _, _, _, _, _, _, _, _, _, _, _, _, _, _, _, _, _, _, _, _, _, _, _, _, _, rfl⟩, by first | (simp [intOf]; done) | (simp [intOf]; omega)⟩
            · as_aux_lemma =>
                have h1 := hFL.out.o o0 o27 o22
                have ca : (w'.alloc (.cells #[.int .i64 op, .int .i64 a, .int .i64 b, .int .i64 c, .int .i64 d] 46)).cell? ⟨w.heap.size, na + 1, none⟩ = some (.int .i64 (fAt f ((na + 1 : Nat) : Int))) := by rw [(hB.alloc (.cells #[.int .i64 op, .int .i64 a, .int .i64 b, .int .i64 c, .int .i64 d] 46)).cell]; exact ints_at (by rw [hfl2]; omega)
                have ha := fAt_in H62.out ((na + 1 : Nat) : Int)
                generalize hfa : fAt f ((na + 1 : Nat) : Int) = fa at *
                have hfs : fuelStep P na ⟨op, a, b, c, d⟩ f = plusV 1 fa := by unfold fuelStep; rw [if_neg hop, if_neg o22, if_neg o23, if_neg o24, hfa]
                have hend : Below w.heap.size w ((w'.alloc (.cells #[.int .i64 op, .int .i64 a, .int .i64 b, .int .i64 c, .int .i64 d] 46)).setCell ⟨w.heap.size, na, none⟩ (.int .i64 (plusV 1 fa))) ∧ Blk ((w'.alloc (.cells #[.int .i64 op, .int .i64 a, .int .i64 b, .int .i64 c, .int .i64 d] 46)).setCell ⟨w.heap.size, na, none⟩ (.int .i64 (plusV 1 fa))) w.heap.size 3 (ints (fuelK P (k + 1))).toArray := ⟨hb1.setCell (by exact Nat.le_refl _) _, by rw [hF1, hfs, ← ints_set]; exact (hB.alloc (.cells #[.int .i64 op, .int .i64 a, .int .i64 b, .int .i64 c, .int .i64 d] 46)).set_ na _⟩
                have hend2 : Below w.heap.size w ((w'.alloc (.cells #[.int .i64 op, .int .i64 a, .int .i64 b, .int .i64 c, .int .i64 d] 46)).drew.setCell ⟨w.heap.size, na, none⟩ (.int .i64 (plusV 1 fa))) ∧ Blk ((w'.alloc (.cells #[.int .i64 op, .int .i64 a, .int .i64 b, .int .i64 c, .int .i64 d] 46)).drew.setCell ⟨w.heap.size, na, none⟩ (.int .i64 (plusV 1 fa))) w.heap.size 3 (ints (fuelK P (k + 1))).toArray := ⟨hb1.drew.setCell (by exact Nat.le_refl _) _, by rw [hF1, hfs, ← ints_set]; exact (hB.alloc (.cells #[.int .i64 op, .int .i64 a, .int .i64 b, .int .i64 c, .int .i64 d] 46)).drew.set_ na _⟩
                have HEND := hide hend
                have HEND2 := hide hend2
                clear hend hend2 hfs hF1 hfl hb1 hB hb hxe hfl2 h62 HV v5 hmk
                go_wp2_with (go_at_call 52
                             refine (plus_s _ 1 fa (by omega) (by omega) (by omega) (by omega)).mono ?_
                             rintro en w5 ⟨rfl, rfl⟩)
                go_step3
                exact ⟨rfl, ⟨k + 1, (na : Int) - 1, by omega, HEND.out.1, HEND.out.2, _, _, _, _, _, _, _, _, _, _, _, _, _, _, _, _, _, _, _, _, _, _, _, _, _, _, _, _, _, _, _, _, _, _, _, _, _, _, _, _, _, _, _, _, _, _, _, _, _, _, _, _, _, _, _, _, _, _, _, _, _, _, _, _, _, _, _, _, _, _, _, _, _, _, _, _, _, _, _, _, _, _, _, _, _, _, _, _, _, _, _, _, _, rfl⟩, by first | (simp [intOf]; done) | (simp [intOf]; omega)⟩
end Go.Proofs.Ytjflllfkgbhemaa
