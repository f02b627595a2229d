/- Several texts in one: The walk of the reference's check of a program. Conditions: those of each. -/
import Derived.Test.YtjflllfkgbhemaaM7
/- The walk of the reference's check of a program. Conditions: the program lies in memory. -/
namespace Go.Proofs.Ytjflllfkgbhemaa
open Go.RowKit
def rowsV (l : List (ByteArray × ByteArray)) : List Value := l.flatMap fun r => [.string r.1, .int .i64 (rKind r 0), .int .i64 (rKind r 1), .int .i64 (rKind r 2), .int .i64 (rKind r 3)]
theorem rowsV_get : ∀ {l : List (ByteArray × ByteArray)} {i : Nat} {r : ByteArray × ByteArray}, l[i]? = some r → ∀ m, m < 4 → (rowsV l)[i * 5 + 1 + m]? = some (.int .i64 (rKind r m))
  | [], _, _, h, _, _ => by simp at h
  | y :: l, 0, r, h, m, hm => by
    simp at h
    subst h
    obtain rfl | rfl | rfl | rfl : m = 0 ∨ m = 1 ∨ m = 2 ∨ m = 3 := by omega
    all_goals rfl
  | y :: l, i + 1, r, h, m, hm => by
    have ih := rowsV_get (l := l) (i := i) (r := r) (by simpa using h) m hm
    have e : rowsV (y :: l) = [.string y.1, .int .i64 (rKind y 0), .int .i64 (rKind y 1), .int .i64 (rKind y 2), .int .i64 (rKind y 3)] ++ rowsV l := rfl
    have hl : ([.string y.1, .int .i64 (rKind y 0), .int .i64 (rKind y 1), .int .i64 (rKind y 2), .int .i64 (rKind y 3)] : List Value).length = 5 := rfl
    rw [e, List.getElem?_append_right (by omega), hl, show (i + 1) * 5 + 1 + m - 5 = i * 5 + 1 + m by omega]
    exact ih
theorem tblC_get {i : Nat} {r : ByteArray × ByteArray} (h : table[i]? = some r) {m : Nat} (hm : m < 4) : tblC[i * 5 + 1 + m]? = some (.int .i64 (rKind r m)) := rowsV_get h m hm
set_option maxRecDepth 100000 in
theorem operands15_i (w : World) (x : Ins) : Calls Try.prog 57 #[.agg #[.int .i64 x.op, .int .i64 x.a, .int .i64 x.b, .int .i64 x.c, .int .i64 x.d]] w fun en w' => en = .returned (.agg #[.int .i64 x.a, .int .i64 x.b, .int .i64 x.c, .int .i64 x.d]) ∧ Below w.heap.size w w' := by
  have hres : Try.f57.results = #[.cell 2 114] := by kernel_rfl
  have HRES := hide hres
  clear hres
  obtain ⟨x0, x1, x2, x3, x4⟩ := x
  go_enter Try.func57, Try.ntmps57
  go_wp2_with fail
  refine bodyPost_ret (v := .agg #[.int .i64 x1, .int .i64 x2, .int .i64 x3, .int .i64 x4]) ?_ rfl ⟨rfl, ((Below.refl _ w).alloc (Nat.le_refl _) _).alloc (by simp) _⟩
  simp only [results, HRES.out]
  go_simp
theorem ins_bad (P : Prg) {k : Nat} {x : Ins} {r : ByteArray × ByteArray} (hk : x.op = (k : Int)) (hr : table[k]? = some r) {m : Nat} (hm : m < 4) (h : opOk P r.2 x m = false) : insE P x = 92 := by
  obtain ⟨op, a, b, c, d⟩ := x
  simp only at hk
  subst hk
  rw [insE_at P hr]
  obtain rfl | rfl | rfl | rfl : m = 0 ∨ m = 1 ∨ m = 2 ∨ m = 3 := by omega
  all_goals simp [h]
theorem ins_good (P : Prg) {k : Nat} {x : Ins} {r : ByteArray × ByteArray} (hk : x.op = (k : Int)) (hr : table[k]? = some r) (h : ∀ m, m < 4 → opOk P r.2 x m = true) : insE P x = 0 := by
  obtain ⟨op, a, b, c, d⟩ := x
  simp only at hk
  subst hk
  rw [insE_at P hr, h 0 (by omega), h 1 (by omega), h 2 (by omega), h 3 (by omega)]
  rfl
set_option linter.unusedVariables false in
set_option linter.unusedSimpArgs false in
set_option maxRecDepth 100000 in
set_option maxHeartbeats 40000000 in
theorem check_r (w : World) (p : PV) (P : Prg) (h : AMem w p P) : Calls Try.prog 36 #[p.val] w fun en w' => en = .returned (.int .i64 (checkV P : Int)) ∧ Below w.heap.size w w' := by
  have HM := hide h
  have lens := h.lens
  obtain ⟨e1, e2, e3, e4, e5, e6, _, _, _, _, _, _⟩ := h
  obtain ⟨ga, va, ta, oa, ca, gl, gc, vl, vc, tl, tc, ol, oc, cl, cc, miss⟩ := p
  simp only at e1 e2 e3 e4 e5 e6
  subst e1 e2 e3 e4 e5 e6
  have HL := hide lens
  obtain ⟨l1, l2, l3, l4, l5⟩ := lens
  have HVR := hide (fun (W : World) (hb : Below w.heap.size w W) => vars_r W va P.vs.length vc P.vs (HM.out.v.below hb) rfl l2)
  have HTR := hide (fun (W : World) (hb : Below w.heap.size w W) => tags_r W ta P.ts.length tc P.ts (HM.out.t.below hb) rfl l3)
  simp only [PV.val] at *
  unfold maxLen at l1 l2 l3 l4 l5
  have hW1 : Below w.heap.size w (w.alloc (.cells #[.slice ga P.gh.length gc, .slice va P.vs.length vc, .slice ta P.ts.length tc, .slice oa P.os.length oc, .int .i64 P.miss, .slice ca P.cd.length cc] 28)) := (Below.refl _ w).alloc (Nat.le_refl _) _
  have hk1 : Blk (w.alloc (.cells #[.slice ga P.gh.length gc, .slice va P.vs.length vc, .slice ta P.ts.length tc, .slice oa P.os.length oc, .int .i64 P.miss, .slice ca P.cd.length cc] 28)) w.heap.size 28 #[.slice ga P.gh.length gc, .slice va P.vs.length vc, .slice ta P.ts.length tc, .slice oa P.os.length oc, .int .i64 P.miss, .slice ca P.cd.length cc] := Blk.new w 28 _
  obtain ⟨fv, hfv⟩ : ∃ f, P.vs.all vrOk = f := ⟨_, rfl⟩
  obtain ⟨ft, hft⟩ : ∃ f, (P.ts.all fun t => fromV t 1 255) = f := ⟨_, rfl⟩
  rw [hfv] at HVR
  rw [hft] at HTR
  have HFV := hide hfv
  have HFT := hide hft
  clear hfv hft
  go_enter Try.func36, Try.ntmps36
  go_upto_region 1 with fail
  generalize hw1 : w.alloc (.cells #[.slice ga P.gh.length gc, .slice va P.vs.length vc, .slice ta P.ts.length tc, .slice oa P.os.length oc, .int .i64 P.miss, .slice ca P.cd.length cc] 28) = W1 at *
  clear hw1
  generalize hbx : w.heap.size = bx at *
  have HBX := hide hbx
  clear hbx
  have a0 : W1.cell? ⟨bx, 0, none⟩ = some (.slice ga P.gh.length gc) := by rw [hk1.cell]; rfl
  have a1 : W1.cell? ⟨bx, 1, none⟩ = some (.slice va P.vs.length vc) := by rw [hk1.cell]; rfl
  have a2 : W1.cell? ⟨bx, 2, none⟩ = some (.slice ta P.ts.length tc) := by rw [hk1.cell]; rfl
  have a3 : W1.cell? ⟨bx, 3, none⟩ = some (.slice oa P.os.length oc) := by rw [hk1.cell]; rfl
  have a4 : W1.cell? ⟨bx, 4, none⟩ = some (.int .i64 P.miss) := by rw [hk1.cell]; rfl
  have a5 : W1.cell? ⟨bx, 5, none⟩ = some (.slice ca P.cd.length cc) := by rw [hk1.cell]; rfl
  have HW1 := hide hW1
  have HK1 := hide hk1
  clear hW1 hk1
  by_cases d0 : 16 < P.gh.length
  · skip
    have i0 : (16 : Int) < (P.gh.length : Int) := by omega
    have hc : checkV P = 85 := by
      have ht : tablesV P = false := by
        simp [tablesV, show ¬ P.gh.length ≤ 16 by omega]
      simp [checkV, ht]
    have HC := hide hc
    clear hc
    go_wp2_with (first
                  | (go_at_call 54
                     with_reducible refine (HVR.out _ HW1.out).mono ?_
                     rintro en w1 ⟨rfl, hB1⟩
                     have hk2 := HK1.out.below hB1 HK1.out.lt
                     have b0 : w1.cell? ⟨bx, 0, none⟩ = some (.slice ga P.gh.length gc) := by rw [hk2.cell]; rfl
                     have b1 : w1.cell? ⟨bx, 1, none⟩ = some (.slice va P.vs.length vc) := by rw [hk2.cell]; rfl
                     have b2 : w1.cell? ⟨bx, 2, none⟩ = some (.slice ta P.ts.length tc) := by rw [hk2.cell]; rfl
                     have b3 : w1.cell? ⟨bx, 3, none⟩ = some (.slice oa P.os.length oc) := by rw [hk2.cell]; rfl
                     have b4 : w1.cell? ⟨bx, 4, none⟩ = some (.int .i64 P.miss) := by rw [hk2.cell]; rfl
                     have b5 : w1.cell? ⟨bx, 5, none⟩ = some (.slice ca P.cd.length cc) := by rw [hk2.cell]; rfl
                     have HB1 := hide (HW1.out.trans (hB1.mono (by have := HK1.out.lt; omega)))
                     have HK2 := hide hk2
                     clear hB1 hk2)
                  | (go_at_call 55
                     with_reducible refine (HTR.out _ HB1.out).mono ?_
                     rintro en w2 ⟨rfl, hB2⟩
                     have hk3 := HK2.out.below hB2 HK2.out.lt
                     have c0 : w2.cell? ⟨bx, 0, none⟩ = some (.slice ga P.gh.length gc) := by rw [hk3.cell]; rfl
                     have c1 : w2.cell? ⟨bx, 1, none⟩ = some (.slice va P.vs.length vc) := by rw [hk3.cell]; rfl
                     have c2 : w2.cell? ⟨bx, 2, none⟩ = some (.slice ta P.ts.length tc) := by rw [hk3.cell]; rfl
                     have c3 : w2.cell? ⟨bx, 3, none⟩ = some (.slice oa P.os.length oc) := by rw [hk3.cell]; rfl
                     have c4 : w2.cell? ⟨bx, 4, none⟩ = some (.int .i64 P.miss) := by rw [hk3.cell]; rfl
                     have c5 : w2.cell? ⟨bx, 5, none⟩ = some (.slice ca P.cd.length cc) := by rw [hk3.cell]; rfl
                     have HB2 := hide (HB1.out.trans (hB2.mono (by have := HK2.out.lt; omega)))
                     have HK3 := hide hk3
                     clear hB2 hk3))
    go_ret
    exact ⟨by rw [HC.out]; rfl, by rw [HBX.out]; exact HW1.out⟩
  · skip
    have i0 : ¬ (16 : Int) < (P.gh.length : Int) := by omega
    by_cases d1 : 16 < P.vs.length
    · skip
      have i1 : (16 : Int) < (P.vs.length : Int) := by omega
      have hc : checkV P = 85 := by
        have ht : tablesV P = false := by
          simp [tablesV, show ¬ P.vs.length ≤ 16 by omega]
        simp [checkV, ht]
      have HC := hide hc
      clear hc
      go_wp2_with (first
                    | (go_at_call 54
                       with_reducible refine (HVR.out _ HW1.out).mono ?_
                       rintro en w1 ⟨rfl, hB1⟩
                       have hk2 := HK1.out.below hB1 HK1.out.lt
                       have b0 : w1.cell? ⟨bx, 0, none⟩ = some (.slice ga P.gh.length gc) := by rw [hk2.cell]; rfl
                       have b1 : w1.cell? ⟨bx, 1, none⟩ = some (.slice va P.vs.length vc) := by rw [hk2.cell]; rfl
                       have b2 : w1.cell? ⟨bx, 2, none⟩ = some (.slice ta P.ts.length tc) := by rw [hk2.cell]; rfl
                       have b3 : w1.cell? ⟨bx, 3, none⟩ = some (.slice oa P.os.length oc) := by rw [hk2.cell]; rfl
                       have b4 : w1.cell? ⟨bx, 4, none⟩ = some (.int .i64 P.miss) := by rw [hk2.cell]; rfl
                       have b5 : w1.cell? ⟨bx, 5, none⟩ = some (.slice ca P.cd.length cc) := by rw [hk2.cell]; rfl
                       have HB1 := hide (HW1.out.trans (hB1.mono (by have := HK1.out.lt; omega)))
                       have HK2 := hide hk2
                       clear hB1 hk2)
                    | (go_at_call 55
                       with_reducible refine (HTR.out _ HB1.out).mono ?_
                       rintro en w2 ⟨rfl, hB2⟩
                       have hk3 := HK2.out.below hB2 HK2.out.lt
                       have c0 : w2.cell? ⟨bx, 0, none⟩ = some (.slice ga P.gh.length gc) := by rw [hk3.cell]; rfl
                       have c1 : w2.cell? ⟨bx, 1, none⟩ = some (.slice va P.vs.length vc) := by rw [hk3.cell]; rfl
                       have c2 : w2.cell? ⟨bx, 2, none⟩ = some (.slice ta P.ts.length tc) := by rw [hk3.cell]; rfl
                       have c3 : w2.cell? ⟨bx, 3, none⟩ = some (.slice oa P.os.length oc) := by rw [hk3.cell]; rfl
                       have c4 : w2.cell? ⟨bx, 4, none⟩ = some (.int .i64 P.miss) := by rw [hk3.cell]; rfl
                       have c5 : w2.cell? ⟨bx, 5, none⟩ = some (.slice ca P.cd.length cc) := by rw [hk3.cell]; rfl
                       have HB2 := hide (HB1.out.trans (hB2.mono (by have := HK2.out.lt; omega)))
                       have HK3 := hide hk3
                       clear hB2 hk3))
      go_ret
      exact ⟨by rw [HC.out]; rfl, by rw [HBX.out]; exact HW1.out⟩
    · skip
      have i1 : ¬ (16 : Int) < (P.vs.length : Int) := by omega
      by_cases d2 : 4 < P.ts.length
      · skip
        have i2 : (4 : Int) < (P.ts.length : Int) := by omega
        have hc : checkV P = 85 := by
          have ht : tablesV P = false := by
            simp [tablesV, show ¬ P.ts.length ≤ 4 by omega]
          simp [checkV, ht]
        have HC := hide hc
        clear hc
        go_wp2_with (first
                      | (go_at_call 54
                         with_reducible refine (HVR.out _ HW1.out).mono ?_
                         rintro en w1 ⟨rfl, hB1⟩
                         have hk2 := HK1.out.below hB1 HK1.out.lt
                         have b0 : w1.cell? ⟨bx, 0, none⟩ = some (.slice ga P.gh.length gc) := by rw [hk2.cell]; rfl
                         have b1 : w1.cell? ⟨bx, 1, none⟩ = some (.slice va P.vs.length vc) := by rw [hk2.cell]; rfl
                         have b2 : w1.cell? ⟨bx, 2, none⟩ = some (.slice ta P.ts.length tc) := by rw [hk2.cell]; rfl
                         have b3 : w1.cell? ⟨bx, 3, none⟩ = some (.slice oa P.os.length oc) := by rw [hk2.cell]; rfl
                         have b4 : w1.cell? ⟨bx, 4, none⟩ = some (.int .i64 P.miss) := by rw [hk2.cell]; rfl
                         have b5 : w1.cell? ⟨bx, 5, none⟩ = some (.slice ca P.cd.length cc) := by rw [hk2.cell]; rfl
                         have HB1 := hide (HW1.out.trans (hB1.mono (by have := HK1.out.lt; omega)))
                         have HK2 := hide hk2
                         clear hB1 hk2)
                      | (go_at_call 55
                         with_reducible refine (HTR.out _ HB1.out).mono ?_
                         rintro en w2 ⟨rfl, hB2⟩
                         have hk3 := HK2.out.below hB2 HK2.out.lt
                         have c0 : w2.cell? ⟨bx, 0, none⟩ = some (.slice ga P.gh.length gc) := by rw [hk3.cell]; rfl
                         have c1 : w2.cell? ⟨bx, 1, none⟩ = some (.slice va P.vs.length vc) := by rw [hk3.cell]; rfl
                         have c2 : w2.cell? ⟨bx, 2, none⟩ = some (.slice ta P.ts.length tc) := by rw [hk3.cell]; rfl
                         have c3 : w2.cell? ⟨bx, 3, none⟩ = some (.slice oa P.os.length oc) := by rw [hk3.cell]; rfl
                         have c4 : w2.cell? ⟨bx, 4, none⟩ = some (.int .i64 P.miss) := by rw [hk3.cell]; rfl
                         have c5 : w2.cell? ⟨bx, 5, none⟩ = some (.slice ca P.cd.length cc) := by rw [hk3.cell]; rfl
                         have HB2 := hide (HB1.out.trans (hB2.mono (by have := HK2.out.lt; omega)))
                         have HK3 := hide hk3
                         clear hB2 hk3))
        go_ret
        exact ⟨by rw [HC.out]; rfl, by rw [HBX.out]; exact HW1.out⟩
      · skip
        have i2 : ¬ (4 : Int) < (P.ts.length : Int) := by omega
        cases fv
        · skip
          have hc : checkV P = 85 := by
            have ht : tablesV P = false := by
              have := HFV.out; simp [tablesV, this]
            simp [checkV, ht]
          have HC := hide hc
          clear hc
          go_wp2_with (first
                        | (go_at_call 54
                           with_reducible refine (HVR.out _ HW1.out).mono ?_
                           rintro en w1 ⟨rfl, hB1⟩
                           have hk2 := HK1.out.below hB1 HK1.out.lt
                           have b0 : w1.cell? ⟨bx, 0, none⟩ = some (.slice ga P.gh.length gc) := by rw [hk2.cell]; rfl
                           have b1 : w1.cell? ⟨bx, 1, none⟩ = some (.slice va P.vs.length vc) := by rw [hk2.cell]; rfl
                           have b2 : w1.cell? ⟨bx, 2, none⟩ = some (.slice ta P.ts.length tc) := by rw [hk2.cell]; rfl
                           have b3 : w1.cell? ⟨bx, 3, none⟩ = some (.slice oa P.os.length oc) := by rw [hk2.cell]; rfl
                           have b4 : w1.cell? ⟨bx, 4, none⟩ = some (.int .i64 P.miss) := by rw [hk2.cell]; rfl
                           have b5 : w1.cell? ⟨bx, 5, none⟩ = some (.slice ca P.cd.length cc) := by rw [hk2.cell]; rfl
                           have HB1 := hide (HW1.out.trans (hB1.mono (by have := HK1.out.lt; omega)))
                           have HK2 := hide hk2
                           clear hB1 hk2)
                        | (go_at_call 55
                           with_reducible refine (HTR.out _ HB1.out).mono ?_
                           rintro en w2 ⟨rfl, hB2⟩
                           have hk3 := HK2.out.below hB2 HK2.out.lt
                           have c0 : w2.cell? ⟨bx, 0, none⟩ = some (.slice ga P.gh.length gc) := by rw [hk3.cell]; rfl
                           have c1 : w2.cell? ⟨bx, 1, none⟩ = some (.slice va P.vs.length vc) := by rw [hk3.cell]; rfl
                           have c2 : w2.cell? ⟨bx, 2, none⟩ = some (.slice ta P.ts.length tc) := by rw [hk3.cell]; rfl
                           have c3 : w2.cell? ⟨bx, 3, none⟩ = some (.slice oa P.os.length oc) := by rw [hk3.cell]; rfl
                           have c4 : w2.cell? ⟨bx, 4, none⟩ = some (.int .i64 P.miss) := by rw [hk3.cell]; rfl
                           have c5 : w2.cell? ⟨bx, 5, none⟩ = some (.slice ca P.cd.length cc) := by rw [hk3.cell]; rfl
                           have HB2 := hide (HB1.out.trans (hB2.mono (by have := HK2.out.lt; omega)))
                           have HK3 := hide hk3
                           clear hB2 hk3))
          go_ret
          exact ⟨by rw [HC.out]; rfl, by rw [HBX.out]; exact HB1.out⟩
        · skip
          cases ft
          · skip
            have hc : checkV P = 85 := by
              have ht : tablesV P = false := by
                have := HFT.out; simp [tablesV, this]
              simp [checkV, ht]
            have HC := hide hc
            clear hc
            go_wp2_with (first
                          | (go_at_call 54
                             with_reducible refine (HVR.out _ HW1.out).mono ?_
                             rintro en w1 ⟨rfl, hB1⟩
                             have hk2 := HK1.out.below hB1 HK1.out.lt
                             have b0 : w1.cell? ⟨bx, 0, none⟩ = some (.slice ga P.gh.length gc) := by rw [hk2.cell]; rfl
                             have b1 : w1.cell? ⟨bx, 1, none⟩ = some (.slice va P.vs.length vc) := by rw [hk2.cell]; rfl
                             have b2 : w1.cell? ⟨bx, 2, none⟩ = some (.slice ta P.ts.length tc) := by rw [hk2.cell]; rfl
                             have b3 : w1.cell? ⟨bx, 3, none⟩ = some (.slice oa P.os.length oc) := by rw [hk2.cell]; rfl
                             have b4 : w1.cell? ⟨bx, 4, none⟩ = some (.int .i64 P.miss) := by rw [hk2.cell]; rfl
                             have b5 : w1.cell? ⟨bx, 5, none⟩ = some (.slice ca P.cd.length cc) := by rw [hk2.cell]; rfl
                             have HB1 := hide (HW1.out.trans (hB1.mono (by have := HK1.out.lt; omega)))
                             have HK2 := hide hk2
                             clear hB1 hk2)
                          | (go_at_call 55
                             with_reducible refine (HTR.out _ HB1.out).mono ?_
                             rintro en w2 ⟨rfl, hB2⟩
                             have hk3 := HK2.out.below hB2 HK2.out.lt
                             have c0 : w2.cell? ⟨bx, 0, none⟩ = some (.slice ga P.gh.length gc) := by rw [hk3.cell]; rfl
                             have c1 : w2.cell? ⟨bx, 1, none⟩ = some (.slice va P.vs.length vc) := by rw [hk3.cell]; rfl
                             have c2 : w2.cell? ⟨bx, 2, none⟩ = some (.slice ta P.ts.length tc) := by rw [hk3.cell]; rfl
                             have c3 : w2.cell? ⟨bx, 3, none⟩ = some (.slice oa P.os.length oc) := by rw [hk3.cell]; rfl
                             have c4 : w2.cell? ⟨bx, 4, none⟩ = some (.int .i64 P.miss) := by rw [hk3.cell]; rfl
                             have c5 : w2.cell? ⟨bx, 5, none⟩ = some (.slice ca P.cd.length cc) := by rw [hk3.cell]; rfl
                             have HB2 := hide (HB1.out.trans (hB2.mono (by have := HK2.out.lt; omega)))
                             have HK3 := hide hk3
                             clear hB2 hk3))
            go_ret
            exact ⟨by rw [HC.out]; rfl, by rw [HBX.out]; exact HB2.out⟩
          · skip
            by_cases d5 : P.os.length ≠ P.gh.length
            · skip
              have i5 : ¬ (P.os.length : Int) = (P.gh.length : Int) := by omega
              have hc : checkV P = 85 := by
                have ht : tablesV P = false := by
                  simp [tablesV, d5]
                simp [checkV, ht]
              have HC := hide hc
              clear hc
              go_wp2_with (first
                            | (go_at_call 54
                               with_reducible refine (HVR.out _ HW1.out).mono ?_
                               rintro en w1 ⟨rfl, hB1⟩
                               have hk2 := HK1.out.below hB1 HK1.out.lt
                               have b0 : w1.cell? ⟨bx, 0, none⟩ = some (.slice ga P.gh.length gc) := by rw [hk2.cell]; rfl
                               have b1 : w1.cell? ⟨bx, 1, none⟩ = some (.slice va P.vs.length vc) := by rw [hk2.cell]; rfl
                               have b2 : w1.cell? ⟨bx, 2, none⟩ = some (.slice ta P.ts.length tc) := by rw [hk2.cell]; rfl
                               have b3 : w1.cell? ⟨bx, 3, none⟩ = some (.slice oa P.os.length oc) := by rw [hk2.cell]; rfl
                               have b4 : w1.cell? ⟨bx, 4, none⟩ = some (.int .i64 P.miss) := by rw [hk2.cell]; rfl
                               have b5 : w1.cell? ⟨bx, 5, none⟩ = some (.slice ca P.cd.length cc) := by rw [hk2.cell]; rfl
                               have HB1 := hide (HW1.out.trans (hB1.mono (by have := HK1.out.lt; omega)))
                               have HK2 := hide hk2
                               clear hB1 hk2)
                            | (go_at_call 55
                               with_reducible refine (HTR.out _ HB1.out).mono ?_
                               rintro en w2 ⟨rfl, hB2⟩
                               have hk3 := HK2.out.below hB2 HK2.out.lt
                               have c0 : w2.cell? ⟨bx, 0, none⟩ = some (.slice ga P.gh.length gc) := by rw [hk3.cell]; rfl
                               have c1 : w2.cell? ⟨bx, 1, none⟩ = some (.slice va P.vs.length vc) := by rw [hk3.cell]; rfl
                               have c2 : w2.cell? ⟨bx, 2, none⟩ = some (.slice ta P.ts.length tc) := by rw [hk3.cell]; rfl
                               have c3 : w2.cell? ⟨bx, 3, none⟩ = some (.slice oa P.os.length oc) := by rw [hk3.cell]; rfl
                               have c4 : w2.cell? ⟨bx, 4, none⟩ = some (.int .i64 P.miss) := by rw [hk3.cell]; rfl
                               have c5 : w2.cell? ⟨bx, 5, none⟩ = some (.slice ca P.cd.length cc) := by rw [hk3.cell]; rfl
                               have HB2 := hide (HB1.out.trans (hB2.mono (by have := HK2.out.lt; omega)))
                               have HK3 := hide hk3
                               clear hB2 hk3))
              go_ret
              exact ⟨by rw [HC.out]; rfl, by rw [HBX.out]; exact HB2.out⟩
            · skip
              by_cases d6 : 262144 < P.cd.length
              · skip
                have i6 : (262144 : Int) < (P.cd.length : Int) := by omega
                have hc : checkV P = 85 := by
                  have ht : tablesV P = false := by
                    simp [tablesV, show ¬ P.cd.length ≤ 262144 by omega]
                  simp [checkV, ht]
                have HC := hide hc
                clear hc
                go_wp2_with (first
                              | (go_at_call 54
                                 with_reducible refine (HVR.out _ HW1.out).mono ?_
                                 rintro en w1 ⟨rfl, hB1⟩
                                 have hk2 := HK1.out.below hB1 HK1.out.lt
                                 have b0 : w1.cell? ⟨bx, 0, none⟩ = some (.slice ga P.gh.length gc) := by rw [hk2.cell]; rfl
                                 have b1 : w1.cell? ⟨bx, 1, none⟩ = some (.slice va P.vs.length vc) := by rw [hk2.cell]; rfl
                                 have b2 : w1.cell? ⟨bx, 2, none⟩ = some (.slice ta P.ts.length tc) := by rw [hk2.cell]; rfl
                                 have b3 : w1.cell? ⟨bx, 3, none⟩ = some (.slice oa P.os.length oc) := by rw [hk2.cell]; rfl
                                 have b4 : w1.cell? ⟨bx, 4, none⟩ = some (.int .i64 P.miss) := by rw [hk2.cell]; rfl
                                 have b5 : w1.cell? ⟨bx, 5, none⟩ = some (.slice ca P.cd.length cc) := by rw [hk2.cell]; rfl
                                 have HB1 := hide (HW1.out.trans (hB1.mono (by have := HK1.out.lt; omega)))
                                 have HK2 := hide hk2
                                 clear hB1 hk2)
                              | (go_at_call 55
                                 with_reducible refine (HTR.out _ HB1.out).mono ?_
                                 rintro en w2 ⟨rfl, hB2⟩
                                 have hk3 := HK2.out.below hB2 HK2.out.lt
                                 have c0 : w2.cell? ⟨bx, 0, none⟩ = some (.slice ga P.gh.length gc) := by rw [hk3.cell]; rfl
                                 have c1 : w2.cell? ⟨bx, 1, none⟩ = some (.slice va P.vs.length vc) := by rw [hk3.cell]; rfl
                                 have c2 : w2.cell? ⟨bx, 2, none⟩ = some (.slice ta P.ts.length tc) := by rw [hk3.cell]; rfl
                                 have c3 : w2.cell? ⟨bx, 3, none⟩ = some (.slice oa P.os.length oc) := by rw [hk3.cell]; rfl
                                 have c4 : w2.cell? ⟨bx, 4, none⟩ = some (.int .i64 P.miss) := by rw [hk3.cell]; rfl
                                 have c5 : w2.cell? ⟨bx, 5, none⟩ = some (.slice ca P.cd.length cc) := by rw [hk3.cell]; rfl
                                 have HB2 := hide (HB1.out.trans (hB2.mono (by have := HK2.out.lt; omega)))
                                 have HK3 := hide hk3
                                 clear hB2 hk3))
                go_ret
                exact ⟨by rw [HC.out]; rfl, by rw [HBX.out]; exact HB2.out⟩
              · skip
                have i6 : ¬ (262144 : Int) < (P.cd.length : Int) := by omega
                by_cases d7 : P.miss < -1
                · skip
                  have hc : checkV P = 85 := by
                    have ht : tablesV P = false := by
                      simp [tablesV, fromV, show ¬ (-1 : Int) ≤ P.miss by omega]
                    simp [checkV, ht]
                  have HC := hide hc
                  clear hc
                  go_wp2_with (first
                                | (go_at_call 54
                                   with_reducible refine (HVR.out _ HW1.out).mono ?_
                                   rintro en w1 ⟨rfl, hB1⟩
                                   have hk2 := HK1.out.below hB1 HK1.out.lt
                                   have b0 : w1.cell? ⟨bx, 0, none⟩ = some (.slice ga P.gh.length gc) := by rw [hk2.cell]; rfl
                                   have b1 : w1.cell? ⟨bx, 1, none⟩ = some (.slice va P.vs.length vc) := by rw [hk2.cell]; rfl
                                   have b2 : w1.cell? ⟨bx, 2, none⟩ = some (.slice ta P.ts.length tc) := by rw [hk2.cell]; rfl
                                   have b3 : w1.cell? ⟨bx, 3, none⟩ = some (.slice oa P.os.length oc) := by rw [hk2.cell]; rfl
                                   have b4 : w1.cell? ⟨bx, 4, none⟩ = some (.int .i64 P.miss) := by rw [hk2.cell]; rfl
                                   have b5 : w1.cell? ⟨bx, 5, none⟩ = some (.slice ca P.cd.length cc) := by rw [hk2.cell]; rfl
                                   have HB1 := hide (HW1.out.trans (hB1.mono (by have := HK1.out.lt; omega)))
                                   have HK2 := hide hk2
                                   clear hB1 hk2)
                                | (go_at_call 55
                                   with_reducible refine (HTR.out _ HB1.out).mono ?_
                                   rintro en w2 ⟨rfl, hB2⟩
                                   have hk3 := HK2.out.below hB2 HK2.out.lt
                                   have c0 : w2.cell? ⟨bx, 0, none⟩ = some (.slice ga P.gh.length gc) := by rw [hk3.cell]; rfl
                                   have c1 : w2.cell? ⟨bx, 1, none⟩ = some (.slice va P.vs.length vc) := by rw [hk3.cell]; rfl
                                   have c2 : w2.cell? ⟨bx, 2, none⟩ = some (.slice ta P.ts.length tc) := by rw [hk3.cell]; rfl
                                   have c3 : w2.cell? ⟨bx, 3, none⟩ = some (.slice oa P.os.length oc) := by rw [hk3.cell]; rfl
                                   have c4 : w2.cell? ⟨bx, 4, none⟩ = some (.int .i64 P.miss) := by rw [hk3.cell]; rfl
                                   have c5 : w2.cell? ⟨bx, 5, none⟩ = some (.slice ca P.cd.length cc) := by rw [hk3.cell]; rfl
                                   have HB2 := hide (HB1.out.trans (hB2.mono (by have := HK2.out.lt; omega)))
                                   have HK3 := hide hk3
                                   clear hB2 hk3))
                  go_ret
                  exact ⟨by rw [HC.out]; rfl, by rw [HBX.out]; exact HB2.out⟩
                · skip
                  have i7 : ¬ P.miss < -1 := by omega
                  by_cases d8 : (P.cd.length : Int) ≤ P.miss
                  · skip
                    have hc : checkV P = 85 := by
                      have ht : tablesV P = false := by
                        simp [tablesV, fromV, show ¬ P.miss ≤ (P.cd.length : Int) - 1 by omega]
                      simp [checkV, ht]
                    have HC := hide hc
                    clear hc
                    go_wp2_with (first
                                  | (go_at_call 54
                                     with_reducible refine (HVR.out _ HW1.out).mono ?_
                                     rintro en w1 ⟨rfl, hB1⟩
                                     have hk2 := HK1.out.below hB1 HK1.out.lt
                                     have b0 : w1.cell? ⟨bx, 0, none⟩ = some (.slice ga P.gh.length gc) := by rw [hk2.cell]; rfl
                                     have b1 : w1.cell? ⟨bx, 1, none⟩ = some (.slice va P.vs.length vc) := by rw [hk2.cell]; rfl
                                     have b2 : w1.cell? ⟨bx, 2, none⟩ = some (.slice ta P.ts.length tc) := by rw [hk2.cell]; rfl
                                     have b3 : w1.cell? ⟨bx, 3, none⟩ = some (.slice oa P.os.length oc) := by rw [hk2.cell]; rfl
                                     have b4 : w1.cell? ⟨bx, 4, none⟩ = some (.int .i64 P.miss) := by rw [hk2.cell]; rfl
                                     have b5 : w1.cell? ⟨bx, 5, none⟩ = some (.slice ca P.cd.length cc) := by rw [hk2.cell]; rfl
                                     have HB1 := hide (HW1.out.trans (hB1.mono (by have := HK1.out.lt; omega)))
                                     have HK2 := hide hk2
                                     clear hB1 hk2)
                                  | (go_at_call 55
                                     with_reducible refine (HTR.out _ HB1.out).mono ?_
                                     rintro en w2 ⟨rfl, hB2⟩
                                     have hk3 := HK2.out.below hB2 HK2.out.lt
                                     have c0 : w2.cell? ⟨bx, 0, none⟩ = some (.slice ga P.gh.length gc) := by rw [hk3.cell]; rfl
                                     have c1 : w2.cell? ⟨bx, 1, none⟩ = some (.slice va P.vs.length vc) := by rw [hk3.cell]; rfl
                                     have c2 : w2.cell? ⟨bx, 2, none⟩ = some (.slice ta P.ts.length tc) := by rw [hk3.cell]; rfl
                                     have c3 : w2.cell? ⟨bx, 3, none⟩ = some (.slice oa P.os.length oc) := by rw [hk3.cell]; rfl
                                     have c4 : w2.cell? ⟨bx, 4, none⟩ = some (.int .i64 P.miss) := by rw [hk3.cell]; rfl
                                     have c5 : w2.cell? ⟨bx, 5, none⟩ = some (.slice ca P.cd.length cc) := by rw [hk3.cell]; rfl
                                     have HB2 := hide (HB1.out.trans (hB2.mono (by have := HK2.out.lt; omega)))
                                     have HK3 := hide hk3
                                     clear hB2 hk3))
                    go_ret
                    exact ⟨by rw [HC.out]; rfl, by rw [HBX.out]; exact HB2.out⟩
                  · skip
                    have i8 : ¬ (P.cd.length : Int) ≤ P.miss := by omega
                    have d5x : P.os.length = P.gh.length := by omega
                    have HT : Hid (tablesV P = P.os.all (fun a => fromV a (-1) ((P.cd.length : Int) - 1))) := hide (by
                      have h1 := HFV.out
                      have h2 := HFT.out
                      have h3 : fromV P.miss (-1) ((P.cd.length : Int) - 1) = true := by simp [fromV]; omega
                      unfold tablesV
                      rw [h1, h2, h3]
                      simp [show P.gh.length ≤ 16 by omega, show P.vs.length ≤ 16 by omega, show P.ts.length ≤ 4 by omega, d5x, show P.cd.length ≤ 262144 by omega])
                    clear d0 d1 d2 d5 d6 l1 l2 l3 l4
                    generalize hgl : P.gh.length = n at *
                    have HGL := hide hgl
                    clear hgl
                    generalize hol : P.os.length = m at *
                    have HOL := hide hol
                    clear hol
                    subst d5x
                    go_wp2_with (first
                                  | (go_at_call 54
                                     with_reducible refine (HVR.out _ HW1.out).mono ?_
                                     rintro en w1 ⟨rfl, hB1⟩
                                     have hk2 := HK1.out.below hB1 HK1.out.lt
                                     have b0 : w1.cell? ⟨bx, 0, none⟩ = some (.slice ga m gc) := by rw [hk2.cell]; rfl
                                     have b1 : w1.cell? ⟨bx, 1, none⟩ = some (.slice va P.vs.length vc) := by rw [hk2.cell]; rfl
                                     have b2 : w1.cell? ⟨bx, 2, none⟩ = some (.slice ta P.ts.length tc) := by rw [hk2.cell]; rfl
                                     have b3 : w1.cell? ⟨bx, 3, none⟩ = some (.slice oa m oc) := by rw [hk2.cell]; rfl
                                     have b4 : w1.cell? ⟨bx, 4, none⟩ = some (.int .i64 P.miss) := by rw [hk2.cell]; rfl
                                     have b5 : w1.cell? ⟨bx, 5, none⟩ = some (.slice ca P.cd.length cc) := by rw [hk2.cell]; rfl
                                     have HB1 := hide (HW1.out.trans (hB1.mono (by have := HK1.out.lt; omega)))
                                     have HK2 := hide hk2
                                     clear hB1 hk2)
                                  | (go_at_call 55
                                     with_reducible refine (HTR.out _ HB1.out).mono ?_
                                     rintro en w2 ⟨rfl, hB2⟩
                                     have hk3 := HK2.out.below hB2 HK2.out.lt
                                     have c0 : w2.cell? ⟨bx, 0, none⟩ = some (.slice ga m gc) := by rw [hk3.cell]; rfl
                                     have c1 : w2.cell? ⟨bx, 1, none⟩ = some (.slice va P.vs.length vc) := by rw [hk3.cell]; rfl
                                     have c2 : w2.cell? ⟨bx, 2, none⟩ = some (.slice ta P.ts.length tc) := by rw [hk3.cell]; rfl
                                     have c3 : w2.cell? ⟨bx, 3, none⟩ = some (.slice oa m oc) := by rw [hk3.cell]; rfl
                                     have c4 : w2.cell? ⟨bx, 4, none⟩ = some (.int .i64 P.miss) := by rw [hk3.cell]; rfl
                                     have c5 : w2.cell? ⟨bx, 5, none⟩ = some (.slice ca P.cd.length cc) := by rw [hk3.cell]; rfl
                                     have HB2 := hide (HB1.out.trans (hB2.mono (by have := HK2.out.lt; omega)))
                                     have HK3 := hide hk3
                                     clear hB2 hk3))
                    go_loopw [3] (fun tx W => ∃ i : Nat, tx = .int .i64 (i : Int) ∧ i ≤ m ∧ (P.os.take i).all (fun a => fromV a (-1) ((P.cd.length : Int) - 1)) = true ∧ Below bx w W ∧ Blk W bx 28 #[.slice ga m gc, .slice va P.vs.length vc, .slice ta P.ts.length tc, .slice oa m oc, .int .i64 P.miss, .slice ca P.cd.length cc]) (fun tx _ => m - (intOf tx).toNat)
                    case atStart => exact ⟨0, rfl, Nat.zero_le _, by simp, HB2.out, HK3.out⟩
                    case round =>
                      obtain ⟨i, rfl, hi, hall, hB, hk⟩ := hrel
                      rename World => W
                      have HA := hide hall
                      have HB := hide hB
                      have e0 : W.cell? ⟨bx, 0, none⟩ = some (.slice ga m gc) := by rw [hk.cell]; rfl
                      have e1 : W.cell? ⟨bx, 1, none⟩ = some (.slice va P.vs.length vc) := by rw [hk.cell]; rfl
                      have e2 : W.cell? ⟨bx, 2, none⟩ = some (.slice ta P.ts.length tc) := by rw [hk.cell]; rfl
                      have e3 : W.cell? ⟨bx, 3, none⟩ = some (.slice oa m oc) := by rw [hk.cell]; rfl
                      have e4 : W.cell? ⟨bx, 4, none⟩ = some (.int .i64 P.miss) := by rw [hk.cell]; rfl
                      have e5 : W.cell? ⟨bx, 5, none⟩ = some (.slice ca P.cd.length cc) := by rw [hk.cell]; rfl
                      have f0 : W.drew.cell? ⟨bx, 0, none⟩ = some (.slice ga m gc) := by rw [hk.drew.cell]; rfl
                      have f1 : W.drew.cell? ⟨bx, 1, none⟩ = some (.slice va P.vs.length vc) := by rw [hk.drew.cell]; rfl
                      have f2 : W.drew.cell? ⟨bx, 2, none⟩ = some (.slice ta P.ts.length tc) := by rw [hk.drew.cell]; rfl
                      have f3 : W.drew.cell? ⟨bx, 3, none⟩ = some (.slice oa m oc) := by rw [hk.drew.cell]; rfl
                      have f4 : W.drew.cell? ⟨bx, 4, none⟩ = some (.int .i64 P.miss) := by rw [hk.drew.cell]; rfl
                      have f5 : W.drew.cell? ⟨bx, 5, none⟩ = some (.slice ca P.cd.length cc) := by rw [hk.drew.cell]; rfl
                      have HK := hide hk
                      clear hall hB hk
                      by_cases hlt : i < m
                      · obtain ⟨x, hx⟩ : ∃ x, P.os[i]? = some x := ⟨_, List.getElem?_eq_getElem (by rw [HOL.out]; exact hlt)⟩
                        obtain ⟨ad, had, hab, hcl⟩ := src_at HM.out.o (by rw [HOL.out]; omega)
                        simp only at had
                        subst had
                        have c0 := hcl W.drew (by rw [HBX.out]; exact HB.out.drew) i (.int .i64 x) (by simp [ints, hx])
                        have u1 := IntWalk.i64_in ((i : Int) + 1) (by omega)
                        have HX := hide hx
                        clear hcl hab hx
                        by_cases v1 : x < -1
                        · have hc : checkV P = 85 := by
                            have ht : tablesV P = false := by rw [HT.out]; exact all_false HX.out (by simp [fromV]; omega)
                            simp [checkV, ht]
                          have HC := hide hc
                          clear hc
                          go_upto_region 6 with fail
                          go_region
                          all_goals
                            go_wp2_with fail
                            go_ret
                            exact ⟨by rw [HC.out]; rfl, by rw [HBX.out]; exact HB.out.drew⟩
                        · by_cases v2 : (P.cd.length : Int) ≤ x
                          · have hc : checkV P = 85 := by
                              have ht : tablesV P = false := by rw [HT.out]; exact all_false HX.out (by simp [fromV]; omega)
                              simp [checkV, ht]
                            have HC := hide hc
                            clear hc
                            go_upto_region 6 with fail
                            go_region
                            all_goals
                              go_wp2_with fail
                              go_ret
                              exact ⟨by rw [HC.out]; rfl, by rw [HBX.out]; exact HB.out.drew⟩
                          · have hv : fromV x (-1) ((P.cd.length : Int) - 1) = true := by simp [fromV]; omega
                            have HV := hide hv
                            clear hv
                            go_upto_region 6 with fail
                            go_region
                            all_goals
                              go_wp2_with fail
                              go_roundw
                              case rel => exact ⟨i + 1, by go_num, by omega, all_take_succ HX.out HA.out HV.out, HB.out.drew, HK.out.drew⟩
                              case measure => simp [intOf]; omega
                      · have hal : P.os.all (fun a => fromV a (-1) ((P.cd.length : Int) - 1)) = true := by
                          have := HA.out
                          rw [List.take_of_length_le (by rw [HOL.out]; omega)] at this
                          exact this
                        have hc : checkV P = insEs P P.cd := by simp [checkV, HT.out, hal]
                        have HC := hide hc
                        have hno : ¬ (i : Int) < (m : Int) := by omega
                        clear hal hlt hi hc
                        go_wp2_with (go_at_call 56
                                     refine (table_i _).mono ?_
                                     rintro en w6 ⟨g, rfl, hk6, hg6, hb6⟩
                                     have HK6 := hide hk6
                                     have HBK6 := hide (HK.out.below hb6 HK.out.lt)
                                     have HB6 := hide (HB.out.trans (hb6.mono (by have := HK.out.lt; omega)))
                                     have g0 : w6.cell? ⟨bx, 0, none⟩ = some (.slice ga m gc) := by rw [HBK6.out.cell]; rfl
                                     have g1 : w6.cell? ⟨bx, 1, none⟩ = some (.slice va P.vs.length vc) := by rw [HBK6.out.cell]; rfl
                                     have g2 : w6.cell? ⟨bx, 2, none⟩ = some (.slice ta P.ts.length tc) := by rw [HBK6.out.cell]; rfl
                                     have g3 : w6.cell? ⟨bx, 3, none⟩ = some (.slice oa m oc) := by rw [HBK6.out.cell]; rfl
                                     have g4 : w6.cell? ⟨bx, 4, none⟩ = some (.int .i64 P.miss) := by rw [HBK6.out.cell]; rfl
                                     have g5 : w6.cell? ⟨bx, 5, none⟩ = some (.slice ca P.cd.length cc) := by rw [HBK6.out.cell]; rfl
                                     clear hk6 hg6 hb6)
                        go_loopw [5] (fun tx W => ∃ i : Nat, tx = .int .i64 (i : Int) ∧ i ≤ P.cd.length ∧ (∀ y ∈ P.cd.take i, insE P y = 0) ∧ Below bx w W ∧ Blk W bx 28 #[.slice ga m gc, .slice va P.vs.length vc, .slice ta P.ts.length tc, .slice oa m oc, .int .i64 P.miss, .slice ca P.cd.length cc] ∧ Blk W g 118 tblC.toArray) (fun tx _ => P.cd.length - (intOf tx).toNat)
                        case atStart => exact ⟨0, rfl, Nat.zero_le _, by simp, HB6.out, HBK6.out, HK6.out⟩
                        case round =>
                          clear HBK6 HB6 HK6 HK HB hno
                          obtain ⟨i, rfl, hi, hall, hB, hk, hk6⟩ := hrel
                          rename World => W
                          have HA := hide hall
                          have HB := hide hB
                          have e0 : W.cell? ⟨bx, 0, none⟩ = some (.slice ga m gc) := by rw [hk.cell]; rfl
                          have e1 : W.cell? ⟨bx, 1, none⟩ = some (.slice va P.vs.length vc) := by rw [hk.cell]; rfl
                          have e2 : W.cell? ⟨bx, 2, none⟩ = some (.slice ta P.ts.length tc) := by rw [hk.cell]; rfl
                          have e3 : W.cell? ⟨bx, 3, none⟩ = some (.slice oa m oc) := by rw [hk.cell]; rfl
                          have e4 : W.cell? ⟨bx, 4, none⟩ = some (.int .i64 P.miss) := by rw [hk.cell]; rfl
                          have e5 : W.cell? ⟨bx, 5, none⟩ = some (.slice ca P.cd.length cc) := by rw [hk.cell]; rfl
                          have HK := hide hk
                          have HK6 := hide hk6
                          clear hall hB hk hk6
                          by_cases hlt : i < P.cd.length
                          · obtain ⟨x, hx⟩ : ∃ x, P.cd[i]? = some x := ⟨_, List.getElem?_eq_getElem hlt⟩
                            obtain ⟨ad, had, hab, hcl⟩ := src_at HM.out.c (by omega)
                            simp only at had
                            subst had
                            obtain ⟨y0, y1, y2, y3, y4⟩ := codeV_get hx
                            have hcl2 := hcl W (by rw [HBX.out]; exact HB.out)
                            have c0 := hcl2 _ _ y0
                            have c1 := hcl2 _ _ y1
                            have c2 := hcl2 _ _ y2
                            have c3 := hcl2 _ _ y3
                            have c4 := hcl2 _ _ y4
                            rw [add_fld ad (i * 5) 0] at c1
                            rw [add_fld ad (i * 5) 1] at c2
                            rw [add_fld ad (i * 5) 2] at c3
                            rw [add_fld ad (i * 5) 3] at c4
                            obtain ⟨x0, x1, x2, x3, x4⟩ := x
                            simp only at c0 c1 c2 c3 c4
                            have u1 := IntWalk.i64_in ((i : Int) + 1) (by omega)
                            have HX := hide hx
                            clear hcl hcl2 hab hx y0 y1 y2 y3 y4
                            by_cases o1 : x0 < 0
                            · skip
                              have h91 : insE P ⟨x0, x1, x2, x3, x4⟩ = 91 := insE_none P (by simp only; omega)
                              have hc2 : checkV P = 91 := by rw [HC.out, insEs_at HX.out HA.out (by rw [h91]; decide), h91]
                              have HC2 := hide hc2
                              clear h91 hc2
                              go_wp2_with fail
                              go_ret
                              exact ⟨by rw [HC2.out]; rfl, by rw [HBX.out]; exact HB.out.alloc (by have := HK.out.lt; omega) _⟩
                            · skip
                              by_cases o2 : 42 ≤ x0
                              · skip
                                have h91 : insE P ⟨x0, x1, x2, x3, x4⟩ = 91 := insE_none P (by simp only; omega)
                                have hc2 : checkV P = 91 := by rw [HC.out, insEs_at HX.out HA.out (by rw [h91]; decide), h91]
                                have HC2 := hide hc2
                                clear h91 hc2
                                go_wp2_with fail
                                go_ret
                                exact ⟨by rw [HC2.out]; rfl, by rw [HBX.out]; exact HB.out.alloc (by have := HK.out.lt; omega) _⟩
                              · skip
                                obtain ⟨k, rfl⟩ := Int.eq_ofNat_of_zero_le (show 0 ≤ x0 by omega)
                                have hk42 : k < 42 := by omega
                                obtain ⟨r, hr⟩ := table_in hk42
                                have HR := hide hr
                                clear hr
                                go_wp2_with (go_at_call 57
                                             refine (operands15_i _ ⟨(k : Int), x1, x2, x3, x4⟩).mono ?_
                                             rintro en w4 ⟨rfl, hb4⟩
                                             have HB4 := hide hb4
                                             clear hb4)
                                have hb4 := HB4.out
                                have hb5 : Below bx w (w4.alloc (.cells #[.int .i64 x1, .int .i64 x2, .int .i64 x3, .int .i64 x4] 114)) := ((HB.out.alloc (by have := HK.out.lt; omega) _).trans (hb4.mono (by have := HK.out.lt; simp; omega))).alloc (by have := HK.out.lt; have := hb4.size; simp at this; omega) _
                                have j1 : Blk (w4.alloc (.cells #[.int .i64 x1, .int .i64 x2, .int .i64 x3, .int .i64 x4] 114)) bx 28 #[.slice ga m gc, .slice va P.vs.length vc, .slice ta P.ts.length tc, .slice oa m oc, .int .i64 P.miss, .slice (some ad) P.cd.length cc] := ((HK.out.alloc _).below hb4 (HK.out.alloc _).lt).alloc _
                                have j2 : Blk (w4.alloc (.cells #[.int .i64 x1, .int .i64 x2, .int .i64 x3, .int .i64 x4] 114)) g 118 tblC.toArray := ((HK6.out.alloc _).below hb4 (HK6.out.alloc _).lt).alloc _
                                have j3 : Blk (w4.alloc (.cells #[.int .i64 x1, .int .i64 x2, .int .i64 x3, .int .i64 x4] 114)) W.heap.size 46 #[.int .i64 ((k : Nat) : Int), .int .i64 x1, .int .i64 x2, .int .i64 x3, .int .i64 x4] := ((Blk.new W 46 _).below hb4 (Blk.new W 46 _).lt).alloc _
                                have j4 : Blk (w4.alloc (.cells #[.int .i64 x1, .int .i64 x2, .int .i64 x3, .int .i64 x4] 114)) w4.heap.size 114 #[.int .i64 x1, .int .i64 x2, .int .i64 x3, .int .i64 x4] := Blk.new w4 114 _
                                have HB5 := hide hb5
                                have J1 := hide j1
                                have J2 := hide j2
                                have J3 := hide j3
                                have J4 := hide j4
                                clear hb4 hb5 j1 j2 j3 j4 HB4
                                generalize w4.alloc (.cells #[.int .i64 x1, .int .i64 x2, .int .i64 x3, .int .i64 x4] 114) = W5 at *
                                generalize W.heap.size = ib at *
                                generalize w4.heap.size = nb at *
                                go_loopw [8] (fun tx X => ∃ q : Nat, tx = .int .i64 (q : Int) ∧ q ≤ 4 ∧ (∀ j, j < q → opOk P r.2 ⟨(k : Int), x1, x2, x3, x4⟩ j = true) ∧ Below bx w X ∧ Blk X bx 28 #[.slice ga m gc, .slice va P.vs.length vc, .slice ta P.ts.length tc, .slice oa m oc, .int .i64 P.miss, .slice (some ad) P.cd.length cc] ∧ Blk X g 118 tblC.toArray ∧ Blk X ib 46 #[.int .i64 ((k : Nat) : Int), .int .i64 x1, .int .i64 x2, .int .i64 x3, .int .i64 x4] ∧ Blk X nb 114 #[.int .i64 x1, .int .i64 x2, .int .i64 x3, .int .i64 x4]) (fun tx _ => 4 - (intOf tx).toNat)
                                case atStart => exact ⟨0, rfl, Nat.zero_le _, fun j hj => absurd hj (by omega), HB5.out, J1.out, J2.out, J3.out, J4.out⟩
                                case round =>
                                  clear HB5 J1 J2 J3 J4
                                  obtain ⟨q, rfl, hq, hok, hB5, j1, j2, j3, j4⟩ := hrel
                                  rename World => X
                                  have HOK := hide hok
                                  have HB5 := hide hB5
                                  have J1 := hide j1
                                  have J2 := hide j2
                                  have J3 := hide j3
                                  have J4 := hide j4
                                  clear hok hB5 j1 j2 j3 j4
                                  have u2 := IntWalk.i64_in ((q : Int) + 1) (by omega)
                                  by_cases hq4 : q < 4
                                  · have hq4I : (q : Int) < 4 := by omega
                                    have h0 : X.drew.cell? ⟨bx, 0, none⟩ = some (.slice ga m gc) := by rw [J1.out.drew.cell]; rfl
                                    have h1 : X.drew.cell? ⟨bx, 1, none⟩ = some (.slice va P.vs.length vc) := by rw [J1.out.drew.cell]; rfl
                                    have h2 : X.drew.cell? ⟨bx, 2, none⟩ = some (.slice ta P.ts.length tc) := by rw [J1.out.drew.cell]; rfl
                                    have h3 : X.drew.cell? ⟨bx, 3, none⟩ = some (.slice oa m oc) := by rw [J1.out.drew.cell]; rfl
                                    have h4 : X.drew.cell? ⟨bx, 4, none⟩ = some (.int .i64 P.miss) := by rw [J1.out.drew.cell]; rfl
                                    have h5 : X.drew.cell? ⟨bx, 5, none⟩ = some (.slice (some ad) P.cd.length cc) := by rw [J1.out.drew.cell]; rfl
                                    have s0 : X.drew.cell? ⟨ib, 0, none⟩ = some (.int .i64 ((k : Nat) : Int)) := by rw [J3.out.drew.cell]; rfl
                                    have s1 : X.drew.cell? ⟨g, k * 5 + 1 + q, none⟩ = some (.int .i64 (rKind r q)) := by rw [J2.out.drew.cell]; simpa using tblC_get HR.out hq4
                                    obtain ⟨an, han⟩ : ∃ a, Ins.arg ⟨(k : Int), x1, x2, x3, x4⟩ q = a := ⟨_, rfl⟩
                                    have s2 : X.drew.cell? ⟨nb, q, none⟩ = some (.int .i64 an) := by
                                      rw [J4.out.drew.cell, ← han]
                                      obtain rfl | rfl | rfl | rfl : q = 0 ∨ q = 1 ∨ q = 2 ∨ q = 3 := by omega
                                      all_goals rfl
                                    have hfit := fits_i X.drew ⟨ga, va, ta, oa, some ad, m, gc, P.vs.length, vc, P.ts.length, tc, m, oc, P.cd.length, cc, P.miss⟩ P HGL.out.symm rfl rfl rfl (by have := HL.out; exact ⟨this.1, this.2.1, this.2.2.1, this.2.2.2.2⟩) (rKind r q) an
                                    rw [← han, fits_op] at hfit
                                    simp only [PV.val] at hfit
                                    rw [han] at hfit
                                    obtain ⟨fo, hfo⟩ : ∃ f, opOk P r.2 ⟨(k : Int), x1, x2, x3, x4⟩ q = f := ⟨_, rfl⟩
                                    rw [hfo] at hfit
                                    have HFIT := hide hfit
                                    have HFO := hide hfo
                                    clear hfit hfo han
                                    generalize rKind r q = kd at *
                                    have hB6 := HB5.out.drew
                                    cases fo
                                    · go_upto_region 19 with fail
                                      go_region_with (go_at_call 58
                                                      refine HFIT.out.mono ?_
                                                      rintro en w8 ⟨rfl, hb8⟩
                                                      have HB8 := hide hb8
                                                      clear hb8)
                                      all_goals
                                        go_wp2_with fail
                                        go_ret
                                        have h92 : insE P ⟨(k : Int), x1, x2, x3, x4⟩ = 92 := ins_bad P rfl HR.out hq4 HFO.out
                                        have hc3 : checkV P = 92 := by rw [HC.out, insEs_at HX.out HA.out (by rw [h92]; decide), h92]
                                        exact ⟨by rw [hc3]; rfl, by rw [HBX.out]; exact hB6.trans (HB8.out.mono (by have := J1.out.lt; show bx ≤ X.heap.size; omega))⟩
                                    · go_upto_region 19 with fail
                                      go_region_with (go_at_call 58
                                                      refine HFIT.out.mono ?_
                                                      rintro en w8 ⟨rfl, hb8⟩
                                                      have HB8 := hide hb8
                                                      clear hb8)
                                      all_goals
                                        go_wp2_with fail
                                        go_roundw
                                        case rel =>
                                          refine ⟨q + 1, by go_num, by omega, fun j hj => ?_, hB6.trans (HB8.out.mono (by have := J1.out.lt; show bx ≤ X.heap.size; omega)), J1.out.drew.below HB8.out J1.out.drew.lt, J2.out.drew.below HB8.out J2.out.drew.lt, J3.out.drew.below HB8.out J3.out.drew.lt, J4.out.drew.below HB8.out J4.out.drew.lt⟩
                                          by_cases hjq : j = q
                                          · rw [hjq]; exact HFO.out
                                          · exact HOK.out j (by omega)
                                        case measure => simp [intOf]; omega
                                  · have hq4I : ¬ (q : Int) < 4 := by omega
                                    have h0 : insE P ⟨(k : Int), x1, x2, x3, x4⟩ = 0 := ins_good P rfl HR.out (fun m hm => HOK.out m (by omega))
                                    have H0 := hide h0
                                    clear h0 hq hq4
                                    go_wp2_with fail
                                    go_roundw
                                    case rel =>
                                      refine ⟨i + 1, by go_num, by omega, ?_, HB5.out, J1.out, J2.out⟩
                                      intro y hy
                                      rw [List.take_add_one, HX.out] at hy
                                      simp only [Option.toList_some, List.mem_append, List.mem_singleton] at hy
                                      rcases hy with hy | rfl
                                      · exact HA.out y hy
                                      · exact H0.out
                                    case measure => simp [intOf]; omega
                          · have hall2 := HA.out
                            rw [List.take_of_length_le (by omega)] at hall2
                            have h0 : checkV P = 0 := by rw [HC.out]; exact insEs_all hall2
                            have H0 := hide h0
                            have hno : ¬ (i : Int) < (P.cd.length : Int) := by omega
                            clear h0 hall2 hlt hi
                            go_wp2_with fail
                            go_ret
                            exact ⟨by rw [H0.out]; rfl, by rw [HBX.out]; exact HB.out⟩
end Go.Proofs.Ytjflllfkgbhemaa
