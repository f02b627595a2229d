/- Several texts in one: The walks of sameActs and keptActs. The walk of KeptPlan. Conditions: those of each. -/
import Derived.Test.YtdpokdcendgfeaaZ15
import Derived.Test.YtdpokdcendgfeaaZ2
import Derived.Test.YtdpokdcendgfeaaZ16
import Derived.Test.YtdpokdcendgfeaaZ29
import Derived.StillTailTactics
set_option linter.unusedSimpArgs false
set_option linter.unusedVariables false
set_option maxHeartbeats 40000000
namespace Go.Proofs.Ytdpokdcendgfeaa
open Go.RowKit
theorem neA_same (w : World) (x0 x1 x2 x3 x4 x5 : Int) : (binOp .neq 49 (.agg #[.int .i64 x0, .int .i64 x1, .int .i64 x2, .int .i64 x3, .int .i64 x4, .int .i64 x5]) (.agg #[.int .i64 x0, .int .i64 x1, .int .i64 x2, .int .i64 x3, .int .i64 x4, .int .i64 x5])).run Try.prog w = .ok (.bool false) w := by
 have h1 := run_equalIn_agg (P := Try.prog) w 9999 49 #[.int .i64 x0, .int .i64 x1, .int .i64 x2, .int .i64 x3, .int .i64 x4, .int .i64 x5] #[.int .i64 x0, .int .i64 x1, .int .i64 x2, .int .i64 x3, .int .i64 x4, .int .i64 x5] u49 s49
 have h2 := eqFields_int (P := Try.prog) (w := w) (d := 9998) (t := 3) (k := .i64) Try.underlying3 #[.int .i64 x0, .int .i64 x1, .int .i64 x2, .int .i64 x3, .int .i64 x4, .int .i64 x5] #[.int .i64 x0, .int .i64 x1, .int .i64 x2, .int .i64 x3, .int .i64 x4, .int .i64 x5] (Try.prog.fieldsOf 49).toList [(x0, 0), (x1, 1), (x2, 2), (x3, 3), (x4, 4), (x5, 5)] [(x0, 0), (x1, 1), (x2, 2), (x3, 3), (x4, 4), (x5, 5)] f49 rfl (by simp) (by simp)
 rw [run_neq_struct, h1, h2]
 simp
theorem eqA_same (w : World) (x0 x1 x2 x3 x4 x5 : Int) : (binOp .eql 49 (.agg #[.int .i64 x0, .int .i64 x1, .int .i64 x2, .int .i64 x3, .int .i64 x4, .int .i64 x5]) (.agg #[.int .i64 x0, .int .i64 x1, .int .i64 x2, .int .i64 x3, .int .i64 x4, .int .i64 x5])).run Try.prog w = .ok (.bool true) w := by
 rw [eqA]
 simp
set_option maxRecDepth 100000 in
theorem sameActs_i (w : World) (oa ob : Option Addr) (ca cb : Nat) (l : List Ac) (ha : Src w oa l.length (acs l)) (hb : Src w ob l.length (acs l)) (hl : l.length ≤ 4194304) :
   Calls Try.prog 39 #[.slice oa l.length ca, .slice ob l.length cb] w fun en w' => en = .returned (.bool true) ∧ Below w.heap.size w w' := by
 have HA := hide ha
 have HB := hide hb
 have hne := neA_same
 have hgd := g49
 have hnb : ((l.length : Int) != (l.length : Int)) = false := by simp
 clear ha hb
 go_enter Try.func39, Try.ntmps39
 go_wp2_with fail
 go_loopw [5] (fun t5 W => ∃ i : Nat, t5 = .int .i64 (i : Int) ∧ i ≤ l.length ∧ Below w.heap.size w W) (fun t5 _ => l.length - (intOf t5).toNat)
 case atStart => exact ⟨0, rfl, Nat.zero_le _, Below.refl _ _⟩
 case round =>
   obtain ⟨i, rfl, hi, hw⟩ := hrel
   rename World => W
   have HW := hide hw
   have u1 := IntWalk.i64_in ((i : Int) + 1) (by omega)
   have hi0 : (0 : Int) ≤ (i : Int) := by omega
   by_cases hlt : i < l.length
   · have hltI : (i : Int) < (l.length : Int) := by omega
     have hltN : decide (i < l.length) = true := by simp [hlt]
     obtain ⟨x, hx⟩ : ∃ x, l[i]? = some x := ⟨_, List.getElem?_eq_getElem hlt⟩
     obtain ⟨ad, e, hab, q0, q1, q2, q3, q4, q5⟩ := acs_row (HA.out.below hw) hx
     obtain ⟨ae, f, hbb, p0, p1, p2, p3, p4, p5⟩ := acs_row (HB.out.below hw) hx
     subst e f
     obtain ⟨x0, x1, x2, x3, x4, x5⟩ := x
     simp only at q0 q1 q2 q3 q4 q5 p0 p1 p2 p3 p4 p5
     clear hx hab hbb hw
     go_wp2_with fail
     go_quiet (fail)
     go_wp2_with fail
     go_roundw
     case rel => exact ⟨i + 1, by go_num, by omega, below_drewN HW.out _⟩
     case measure => simp [intOf]; omega
   · have hltI : ¬ (i : Int) < (l.length : Int) := by omega
     have hltN : decide (i < l.length) = false := by simp; omega
     clear hw
     go_wp2_with fail
     go_ret
     exact ⟨rfl, HW.out⟩
/-- the first rows written over -/
def overA (i : Nat) (l : List Ac) : List Ac := List.replicate i ⟨19, 5, 0, 0, 0, 0⟩ ++ l.drop i
theorem overA_set {l : List Ac} {i : Nat} (h : i < l.length) : (overA i l).set i ⟨19, 5, 0, 0, 0, 0⟩ = overA (i + 1) l := by
 unfold overA
 rw [List.set_append, if_neg (by simp), List.length_replicate, Nat.sub_self, List.drop_eq_getElem_cons h, List.set_cons_zero, ← List.replicate_append_replicate (n := i) (m := 1), List.append_assoc]
 rfl
theorem overA_length {l : List Ac} {i : Nat} (h : i ≤ l.length) : (overA i l).length = l.length := by
 unfold overA
 rw [List.length_append, List.length_replicate, List.length_drop]
 omega
theorem overA_get {l : List Ac} {i : Nat} {x : Ac} (h : l[i]? = some x) : (overA i l)[i]? = some x := by
 unfold overA
 rw [List.getElem?_append_right (by simp), List.length_replicate, Nat.sub_self, List.getElem?_drop, Nat.add_zero, h]
theorem lendA_length (l : List Ac) : (lendA l).length = l.length + 9 := by simp [lendA, markA]
theorem lendA_mark {l : List Ac} {i : Nat} (h1 : l.length ≤ i) (h2 : i < l.length + 9) : (lendA l)[i]? = some ⟨-9, (i : Int), 0, 0, 0, 0⟩ := by
 unfold lendA
 rw [List.getElem?_append_right h1]
 unfold markA
 rw [List.getElem?_map, List.getElem?_range (by omega)]
 simp only [Option.map_some]
 rw [if_pos (by omega), show (l.length : Int) + ((i - l.length : Nat) : Int) = (i : Int) by omega]
set_option maxRecDepth 100000 in
theorem keptActs_i (w : World) (g : Nat) (ob : Option Addr) (cb : Nat) (l : List Ac) (hg : Blk w g 49 (acs (lendA l)).toArray) (hb : Src w ob l.length (acs l)) (hl : l.length ≤ 1048576) :
   Calls Try.prog 46 #[.slice (some ⟨g, 0, none⟩) l.length (l.length + 9), .slice ob l.length cb] w fun en w' => en = .returned (.bool true) ∧ Only (fun k => k = g) w w' := by
 have ha : Src w (some ⟨g, 0, none⟩) l.length (acs l) := by
   rw [show (acs (lendA l)) = acs l ++ acs (markA l.length 9) from acs_append _ _] at hg
   exact src_pre hg
 have HS := hide (sameActs_i w (some ⟨g, 0, none⟩) ob (l.length + 9) cb l ha hb (by omega))
 have HG := hide hg
 have heq := eqA_same
 have hgd := g49
 have hgl := hg.lt
 clear ha hb hg
 have u1 := IntWalk.i64_in ((l.length : Int) + 9) (by omega)
 have HL9 := hide (lendA_length l)
 obtain ⟨n, hn⟩ : ∃ n, l.length = n := ⟨_, rfl⟩
 have HN := hide hn
 rw [hn] at HS u1 hl HL9 ⊢
 clear hn
 go_enter Try.func46, Try.ntmps46
 go_wp2_with fail
 go_at_call 39
 refine HS.out.mono ?_
 rintro en w3 ⟨rfl, hb3⟩
 have HG3 := hide (HG.out.below hb3 hgl)
 have HO3 := hide (show Only (fun k => k = g) w w3 from Only.of_new hb3)
 clear hb3
 go_wp2_with fail
 go_loopw [5, 7] (fun t5 t7 W => ∃ i : Nat, t5 = .bool true ∧ t7 = .int .i64 (i : Int) ∧ i ≤ n + 9 ∧ Blk W g 49 (acs (overA i (lendA l))).toArray ∧ Only (fun k => k = g) w W) (fun _ t7 _ => n + 9 - (intOf t7).toNat)
 case atStart => exact ⟨0, rfl, rfl, Nat.zero_le _, by simpa [overA] using HG3.out, HO3.out⟩
 case round =>
   clear HG3 HO3
   obtain ⟨i, rfl, rfl, hi, hk, ho⟩ := hrel
   rename World => W
   have HK := hide hk
   have HO := hide ho
   have u2 := IntWalk.i64_in ((i : Int) + 1) (by omega)
   have hi0 : (0 : Int) ≤ (i : Int) := by omega
   by_cases hlt : i < n + 9
   · have hltI : (i : Int) < (n : Int) + 9 := by omega
     have hltN : decide (i < n + 9) = true := by simp [hlt]
     have hil : i < (lendA l).length := by rw [HL9.out]; exact hlt
     obtain ⟨x, hx⟩ : ∃ x, (lendA l)[i]? = some x := ⟨_, List.getElem?_eq_getElem hil⟩
     have HX := hide hx
     have hcell : ∀ j v, j < 6 → x.cells[j]? = some v → W.cell? ⟨g, i * 6 + j, none⟩ = some v := fun j v hj hv => by
       rw [hk.cell]
       have := acs_at _ i j x (overA_get hx) hj
       simpa [hv] using this
     have q0 := hcell 0 _ (by omega) rfl
     have q1 := hcell 1 _ (by omega) rfl
     have q2 := hcell 2 _ (by omega) rfl
     have q3 := hcell 3 _ (by omega) rfl
     have q4 := hcell 4 _ (by omega) rfl
     have q5 := hcell 5 _ (by omega) rfl
     rw [Nat.add_zero] at q0
     have f0 := hk.frozen (i * 6)
     have f1 := hk.frozen (i * 6 + 1)
     have f2 := hk.frozen (i * 6 + 2)
     have f3 := hk.frozen (i * 6 + 3)
     have f4 := hk.frozen (i * 6 + 4)
     have f5 := hk.frozen (i * 6 + 5)
     have HREL : Hid (∀ W', W' = (((((W.setCell ⟨g, i * 6, none⟩ (.int .i64 19)).setCell ⟨g, i * 6 + 1, none⟩ (.int .i64 5)).setCell ⟨g, i * 6 + 2, none⟩ (.int .i64 0)).setCell ⟨g, i * 6 + 3, none⟩ (.int .i64 0)).setCell ⟨g, i * 6 + 4, none⟩ (.int .i64 0)).setCell ⟨g, i * 6 + 5, none⟩ (.int .i64 0) → Blk W' g 49 (acs (overA (i + 1) (lendA l))).toArray ∧ Only (fun k => k = g) w W') := hide (fun W' hW' => by
       subst hW'
       have h9 := (((((hk.set_ (i * 6) (.int .i64 19)).set_ (i * 6 + 1) (.int .i64 5)).set_ (i * 6 + 2) (.int .i64 0)).set_ (i * 6 + 3) (.int .i64 0)).set_ (i * 6 + 4) (.int .i64 0)).set_ (i * 6 + 5) (.int .i64 0)
       rw [acs_set (x := ⟨19, 5, 0, 0, 0, 0⟩) (by rw [overA_length (by omega)]; exact hil), overA_set hil] at h9
       exact ⟨h9, (((((ho.setCell (.inl rfl) _).setCell (.inl rfl) _).setCell (.inl rfl) _).setCell (.inl rfl) _).setCell (.inl rfl) _).setCell (.inl rfl) _⟩)
     clear hk ho hcell hil
     by_cases hin : i < n
     · have hinI : (i : Int) < (n : Int) := by omega
       have hinN : decide (i < n) = true := by simp [hin]
       clear hx
       go_wp2_with fail
       go_roundw
       case rel =>
         obtain ⟨h8, h9⟩ := HREL.out _ rfl
         exact ⟨i + 1, rfl, by go_num, by omega, h8, h9⟩
       case measure => simp [intOf]; omega
     · have hinI : ¬ (i : Int) < (n : Int) := by omega
       have hinN : decide (i < n) = false := by simp; omega
       have hmk := lendA_mark (l := l) (i := i) (by rw [HN.out]; omega) (by rw [HN.out]; omega)
       rw [hx] at hmk
       have hxe := Option.some.inj hmk
       subst hxe
       simp only at q0 q1 q2 q3 q4 q5
       clear hx hmk
       go_wp2_with fail
       go_roundw
       case rel =>
         obtain ⟨h8, h9⟩ := HREL.out _ rfl
         exact ⟨i + 1, rfl, by go_num, by omega, h8, h9⟩
       case measure => simp [intOf]; omega
   · have hltI : ¬ (i : Int) < (n : Int) + 9 := by omega
     have hltN : decide (i < n + 9) = false := by simp; omega
     clear hk ho
     go_wp2_with fail
     go_ret
     exact ⟨rfl, HO.out⟩
end Go.Proofs.Ytdpokdcendgfeaa
namespace Go.Proofs.Ytdpokdcendgfeaa
open Go.RowKit
/-- the first cells written over by nothing -/
def overG (i : Nat) (l : List Value) : List Value := List.replicate i (.slice none 0 0) ++ l.drop i
theorem overG_set {l : List Value} {i : Nat} (h : i < l.length) : (overG i l).toArray.setIfInBounds i (.slice none 0 0) = (overG (i + 1) l).toArray := by
 unfold overG
 apply Array.ext'
 simp only [Array.toList_setIfInBounds]
 rw [List.set_append, if_neg (by simp), List.length_replicate, Nat.sub_self, List.drop_eq_getElem_cons h, List.set_cons_zero, ← List.replicate_append_replicate (n := i) (m := 1), List.append_assoc]
 rfl
theorem overG_get {l : List Value} {i j : Nat} {x : Value} (hij : i ≤ j) (h : l[j]? = some x) : (overG i l)[j]? = some x := by
 unfold overG
 rw [List.getElem?_append_right (by simp; omega), List.length_replicate, List.getElem?_drop, show i + (j - i) = j by omega, h]
set_option maxRecDepth 100000 in
theorem keptPlan_i (w0 w : World) (B gg gv gt gl gm : Nat) (es : List Nat) (q : PlV) (P : Pl) (rs : List (Option Addr × Nat)) (h : LentP w B gg gv gt gl gm es P) (hq : PlMem w0 q P rs) (hb : Below w0.heap.size w0 w) (hB : w0.heap.size ≤ B)
   (hl : P.gh.length ≤ 1048576 ∧ P.vs.length ≤ 1048576 ∧ P.ts.length ≤ 1048576 ∧ P.on.length ≤ 1048576) (hbig : ∀ l ∈ P.on ++ [P.ms], l.length ≤ 1048576) :
   Calls Try.prog 17 #[(lentPl gg gv gt gl gm P).val, q.val] w fun en w' => en = .returned (.bool true) ∧ Only (fun k => k = gg ∨ k = gv ∨ k = gt ∨ k = gl ∨ k = gm ∨ k ∈ es) w w' := by
 have HL := hide h
 have HQ := hide hq
 have HBW := hide hb
 have HBIG := hide hbig
 obtain ⟨b1, b2, b3, b4, b5⟩ := h.base
 have HBASE : Hid (w0.heap.size ≤ gg ∧ w0.heap.size ≤ gv ∧ w0.heap.size ≤ gt ∧ w0.heap.size ≤ gl ∧ w0.heap.size ≤ gm) := hide (by omega)
 have HLTS : Hid (gg < w.heap.size ∧ gv < w.heap.size ∧ gt < w.heap.size ∧ gl < w.heap.size ∧ gm < w.heap.size) := hide ⟨h.g.lt, h.v.lt, h.t.lt, h.l.lt, h.m.lt⟩
 have HES : Hid (∀ e ∈ es, w0.heap.size ≤ e ∧ e < w.heap.size ∧ gm < e) := hide (fun e he => by
   obtain ⟨i, hi⟩ := List.getElem?_of_mem he
   have hil := (List.getElem?_eq_some_iff.1 hi).1
   obtain ⟨l, hl9⟩ : ∃ l, P.on[i]? = some l := ⟨_, List.getElem?_eq_getElem (by rw [← h.e.n]; exact hil)⟩
   obtain ⟨k1, k2⟩ := h.e.e i e l hi hl9
   exact ⟨by omega, k1.lt, k2⟩)
 have HOV := hide (fun (W : World) (hb : Below w0.heap.size w0 W) (i : Nat) (l : List Ac) (hi : P.on[i]? = some l) => (hq.below hb).ev hi)
 have HMS := hide (fun (W : World) (hb : Below w0.heap.size w0 W) => (hq.below hb).miss)
 obtain ⟨f1, f2, f3, f4, f5, _, _, _, _, _, _⟩ := hq
 obtain ⟨yga, yva, yta, yoa, yma, ygl, ygc, yvl, yvc, ytl, ytc, yol, yoc, yml, ymc⟩ := q
 simp only at f1 f2 f3 f4 f5
 subst f1 f2 f3 f4 f5
 simp only [PlV.val, lentPl] at *
 obtain ⟨l1, l2, l3, l4⟩ := hl
 have l5 := hbig P.ms (by simp)
 obtain ⟨N, hN⟩ : ∃ N, P.on.length = N := ⟨_, rfl⟩
 obtain ⟨M, hM⟩ : ∃ M, P.ms.length = M := ⟨_, rfl⟩
 have HN := hide hN
 have HM := hide hM
 rw [hN] at l4 ⊢
 rw [hM] at HMS l5 ⊢
 have HB0 := hide (((Below.refl w.heap.size w).alloc (Nat.le_refl _) (.cells #[.slice (some ⟨gg, 0, none⟩) P.gh.length (P.gh.length + 3), .slice (some ⟨gv, 0, none⟩) P.vs.length (P.vs.length + 3), .slice (some ⟨gt, 0, none⟩) P.ts.length (P.ts.length + 5), .slice (some ⟨gl, 0, none⟩) N (N + 2), .slice (some ⟨gm, 0, none⟩) M (M + 9)] 28)).alloc (by simp) (.cells #[.slice yga P.gh.length ygc, .slice yva P.vs.length yvc, .slice yta P.ts.length ytc, .slice yoa N yoc, .slice yma M ymc] 28))
 have HKL := hide ((Blk.new w 28 #[.slice (some ⟨gg, 0, none⟩) P.gh.length (P.gh.length + 3), .slice (some ⟨gv, 0, none⟩) P.vs.length (P.vs.length + 3), .slice (some ⟨gt, 0, none⟩) P.ts.length (P.ts.length + 5), .slice (some ⟨gl, 0, none⟩) N (N + 2), .slice (some ⟨gm, 0, none⟩) M (M + 9)]).alloc (.cells #[.slice yga P.gh.length ygc, .slice yva P.vs.length yvc, .slice yta P.ts.length ytc, .slice yoa N yoc, .slice yma M ymc] 28))
 have HKQ := hide (blk_new2 w (.cells #[.slice (some ⟨gg, 0, none⟩) P.gh.length (P.gh.length + 3), .slice (some ⟨gv, 0, none⟩) P.vs.length (P.vs.length + 3), .slice (some ⟨gt, 0, none⟩) P.ts.length (P.ts.length + 5), .slice (some ⟨gl, 0, none⟩) N (N + 2), .slice (some ⟨gm, 0, none⟩) M (M + 9)] 28) 28 #[.slice yga P.gh.length ygc, .slice yva P.vs.length yvc, .slice yta P.ts.length ytc, .slice yoa N yoc, .slice yma M ymc])
 obtain ⟨W1, hW1⟩ : ∃ W1, (w.alloc (.cells #[.slice (some ⟨gg, 0, none⟩) P.gh.length (P.gh.length + 3), .slice (some ⟨gv, 0, none⟩) P.vs.length (P.vs.length + 3), .slice (some ⟨gt, 0, none⟩) P.ts.length (P.ts.length + 5), .slice (some ⟨gl, 0, none⟩) N (N + 2), .slice (some ⟨gm, 0, none⟩) M (M + 9)] 28)).alloc (.cells #[.slice yga P.gh.length ygc, .slice yva P.vs.length yvc, .slice yta P.ts.length ytc, .slice yoa N yoc, .slice yma M ymc] 28) = W1 := ⟨_, rfl⟩
 have HW1 := hide hW1
 rw [hW1] at HB0 HKL HKQ
 have HLP := hide (lendProgram_i W1 ⟨yga, yva, yta, none, none, P.gh.length, ygc, P.vs.length, yvc, P.ts.length, ytc, 0, 0, 0, 0, 0⟩ ⟨P.gh, P.vs, P.ts, [], 0, []⟩ ⟨rfl, rfl, rfl, rfl, rfl, rfl, (HQ.out.below (HBW.out.trans (HB0.out.mono HBW.out.size))).g, by rw [varsV_eq]; exact (HQ.out.below (HBW.out.trans (HB0.out.mono HBW.out.size))).v, (HQ.out.below (HBW.out.trans (HB0.out.mono HBW.out.size))).t, src_nil _ _, src_nil _ _, by unfold maxLen; simp; omega⟩ (by simp; omega))
 simp only [PV.val, lentPV, List.length_nil, Nat.zero_add] at HLP
 have u1 := IntWalk.i64_in ((N : Int) + 2) (by omega)
 have u2 := IntWalk.i64_in ((N : Int) + 1) (by omega)
 clear h hb hB hbig hN hM hW1 b1 b2 b3 b4 b5
 go_enter Try.func17, Try.ntmps17
 go_upto_region 1 with fail
 rw [HW1.out]
 obtain ⟨a0, a1, a2, a3, a4, al⟩ := blk5' HKL.out
 obtain ⟨c0, c1, c2, c3, c4, cl⟩ := blk5' HKQ.out
 go_wp2_with fail
 go_at_call 23
 refine HLP.out.mono ?_
 rintro en W2 ⟨hg, hv, ht, ho, hc, rfl, hlt, hb2⟩
 have HLT := hide hlt
 have HBX : Hid (W1.heap.size ≤ ho ∧ W1.heap.size ≤ hc ∧ W1.heap.size ≤ hg ∧ W1.heap.size ≤ hv ∧ W1.heap.size ≤ ht) := hide ⟨hlt.base.2.2.2.1, hlt.base.2.2.2.2, hlt.base.1, hlt.base.2.1, hlt.base.2.2.1⟩
 have HB2 := hide (HB0.out.trans (hb2.mono HB0.out.size))
 have kl2 := HKL.out.below hb2 HKL.out.lt
 have kq2 := HKQ.out.below hb2 HKQ.out.lt
 have hz1 : w.heap.size + 1 < W1.heap.size := HKQ.out.lt
 have hz2 : w.heap.size + 1 < W2.heap.size := Nat.lt_of_lt_of_le hz1 hb2.size
 clear hlt hb2 a0 a1 a2 a3 a4 al c0 c1 c2 c3 c4 cl HLP
 have HKL2 := hide kl2
 have HKQ2 := hide kq2
 obtain ⟨a0, a1, a2, a3, a4, al⟩ := blk5' kl2
 obtain ⟨c0, c1, c2, c3, c4, cl⟩ := blk5' kq2
 have HBX3 := hide ((HB2.out.alloc HB2.out.size (.cells #[.slice (some ⟨gg, 0, none⟩) P.gh.length (P.gh.length + 3), .slice (some ⟨gv, 0, none⟩) P.vs.length (P.vs.length + 3), .slice (some ⟨gt, 0, none⟩) P.ts.length (P.ts.length + 5), .slice (some ⟨ho, 0, none⟩) 0 5, .int .i64 0, .slice (some ⟨hc, 0, none⟩) 0 9] 34)))
 have HKX3 := hide (Blk.new W2 34 #[.slice (some ⟨gg, 0, none⟩) P.gh.length (P.gh.length + 3), .slice (some ⟨gv, 0, none⟩) P.vs.length (P.vs.length + 3), .slice (some ⟨gt, 0, none⟩) P.ts.length (P.ts.length + 5), .slice (some ⟨ho, 0, none⟩) 0 5, .int .i64 0, .slice (some ⟨hc, 0, none⟩) 0 9])
 have HKL3 := hide (HKL2.out.alloc (.cells #[.slice (some ⟨gg, 0, none⟩) P.gh.length (P.gh.length + 3), .slice (some ⟨gv, 0, none⟩) P.vs.length (P.vs.length + 3), .slice (some ⟨gt, 0, none⟩) P.ts.length (P.ts.length + 5), .slice (some ⟨ho, 0, none⟩) 0 5, .int .i64 0, .slice (some ⟨hc, 0, none⟩) 0 9] 34))
 have HKQ3 := hide (HKQ2.out.alloc (.cells #[.slice (some ⟨gg, 0, none⟩) P.gh.length (P.gh.length + 3), .slice (some ⟨gv, 0, none⟩) P.vs.length (P.vs.length + 3), .slice (some ⟨gt, 0, none⟩) P.ts.length (P.ts.length + 5), .slice (some ⟨ho, 0, none⟩) 0 5, .int .i64 0, .slice (some ⟨hc, 0, none⟩) 0 9] 34))
 have HLT3 := hide (HLT.out.o.alloc (.cells #[.slice (some ⟨gg, 0, none⟩) P.gh.length (P.gh.length + 3), .slice (some ⟨gv, 0, none⟩) P.vs.length (P.vs.length + 3), .slice (some ⟨gt, 0, none⟩) P.ts.length (P.ts.length + 5), .slice (some ⟨ho, 0, none⟩) 0 5, .int .i64 0, .slice (some ⟨hc, 0, none⟩) 0 9] 34))
 have HLC3 := hide (HLT.out.c.alloc (.cells #[.slice (some ⟨gg, 0, none⟩) P.gh.length (P.gh.length + 3), .slice (some ⟨gv, 0, none⟩) P.vs.length (P.vs.length + 3), .slice (some ⟨gt, 0, none⟩) P.ts.length (P.ts.length + 5), .slice (some ⟨ho, 0, none⟩) 0 5, .int .i64 0, .slice (some ⟨hc, 0, none⟩) 0 9] 34))
 clear kl2 kq2
 go_upto_region 5 with fail
 obtain ⟨W3, hW3⟩ : ∃ W3, W2.alloc (.cells #[.slice (some ⟨gg, 0, none⟩) P.gh.length (P.gh.length + 3), .slice (some ⟨gv, 0, none⟩) P.vs.length (P.vs.length + 3), .slice (some ⟨gt, 0, none⟩) P.ts.length (P.ts.length + 5), .slice (some ⟨ho, 0, none⟩) 0 5, .int .i64 0, .slice (some ⟨hc, 0, none⟩) 0 9] 34) = W3 := ⟨_, rfl⟩
 obtain ⟨xb, hxb⟩ : ∃ xb, W2.heap.size = xb := ⟨_, rfl⟩
 rw [hW3] at HBX3 HKX3 HKL3 HKQ3 HLT3 HLC3 ⊢
 rw [hxb] at HKX3 ⊢
 have HXB := hide (show w.heap.size + 1 < xb by rw [← hxb]; exact hz2)
 have HPV : Hid (AMem w0 ⟨yga, yva, yta, none, none, P.gh.length, ygc, P.vs.length, yvc, P.ts.length, ytc, 0, 0, 0, 0, 0⟩ ⟨P.gh, P.vs, P.ts, [], 0, []⟩) := hide ⟨rfl, rfl, rfl, rfl, rfl, rfl, HQ.out.g, by rw [varsV_eq]; exact HQ.out.v, HQ.out.t, src_nil _ _, src_nil _ _, by unfold maxLen; simp; omega⟩
 have HWZ : Hid (w.heap.size ≤ W1.heap.size) := hide (by omega)
 have HLP3 : Hid (Lent W3 w0.heap.size gg gv gt ho hc ⟨P.gh, P.vs, P.ts, [], 0, []⟩) := hide ⟨HL.out.g.below HBX3.out HL.out.g.lt, HL.out.v.below HBX3.out HL.out.v.lt, HL.out.t.below HBX3.out HL.out.t.lt, HLT3.out, HLC3.out, ⟨HBASE.out.1, HBASE.out.2.1, HBASE.out.2.2.1, by have := HBX.out.1; have := HWZ.out; have := HBW.out.size; omega, by have := HBX.out.2.1; have := HWZ.out; have := HBW.out.size; omega⟩, by have := HLTS.out.2.2.1; have := HBX.out.1; have := HWZ.out; omega⟩
 have HKP := hide (keptProgram_i w0 W3 w0.heap.size gg gv gt ho hc _ ⟨P.gh, P.vs, P.ts, [], 0, []⟩ HLP3.out HPV.out (HBW.out.trans (HBX3.out.mono HBW.out.size)) (Nat.le_refl _) (by simp; omega))
 simp only [PV.val, lentPV, List.length_nil, Nat.zero_add] at HKP
 have kx := HKX3.out
 obtain ⟨x0, x1, x2, x3, x4, x5, _⟩ := blk6 kx
 clear a0 a1 a2 a3 a4 al c0 c1 c2 c3 c4 cl hW3 hxb kx hz1 hz2
 obtain ⟨a0, a1, a2, a3, a4, al⟩ := blk5' HKL3.out
 obtain ⟨c0, c1, c2, c3, c4, cl⟩ := blk5' HKQ3.out
 have hnb : ((N : Int) != (N : Int)) = false := by simp
 go_wp2_with fail
 go_at_call 45
 refine HKP.out.mono ?_
 rintro en W4 ⟨rfl, ho4⟩
 have HT : Hid (∀ k, (k = gg ∨ k = gv ∨ k = gt ∨ k = ho ∨ k = hc) → (fun k => k = gg ∨ k = gv ∨ k = gt ∨ k = gl ∨ k = gm ∨ k ∈ es) k ∨ w.heap.size ≤ k) := hide (fun k hk => by
   have h1 := HBX.out
   have h2 := HWZ.out
   rcases hk with rfl | rfl | rfl | rfl | rfl
   · exact .inl (.inl rfl)
   · exact .inl (.inr (.inl rfl))
   · exact .inl (.inr (.inr (.inl rfl)))
   · exact .inr (by omega)
   · exact .inr (by omega))
 have HOW4 : Hid (Only (fun k => k = gg ∨ k = gv ∨ k = gt ∨ k = gl ∨ k = gm ∨ k ∈ es) w W4) := hide ((Only.of_new HBX3.out).trans2 ho4 HT.out)
 have hbx : ∀ k, k = w.heap.size ∨ k = w.heap.size + 1 → ¬ (k = gg ∨ k = gv ∨ k = gt ∨ k = ho ∨ k = hc) := fun k hk => by
   have h1 := HBX.out
   have h2 := HLTS.out
   have h3 := HKQ.out.lt
   omega
 have kl4 := HKL3.out.only ho4 (hbx _ (.inl rfl))
 have kq4 := HKQ3.out.only ho4 (hbx _ (.inr rfl))
 have hnew : ∀ k, k < w.heap.size → ¬ (k = gg ∨ k = gv ∨ k = gt) → ¬ (k = gg ∨ k = gv ∨ k = gt ∨ k = ho ∨ k = hc) := fun k h1 h2 h3 => by
   have h4 := HBX.out
   have h5 := HWZ.out
   omega
 have hrow : ∀ {e : Nat} {cs : Array Value} {t : TypeId}, t ≠ 4 → t ≠ 51 → t ≠ 3 → Blk w e t cs → Blk W4 e t cs := fun h1 h2 h3 hk => (hk.below HBX3.out hk.lt).only ho4 (hnew _ hk.lt (fun h => by
   rcases h with h | h | h
   · exact hk.ne_ HL.out.g h1 h
   · exact hk.ne_ HL.out.v h2 h
   · exact hk.ne_ HL.out.t h3 h))
 have hgm4 := hrow (by decide) (by decide) (by decide) HL.out.m
 have HGL4 := hide (hrow (by decide) (by decide) (by decide) HL.out.l)
 have HEV4 : Hid (∀ (j e : Nat) (l : List Ac), es[j]? = some e → P.on[j]? = some l → Blk W4 e 49 (acs (lendA l)).toArray) := hide (fun j e l h1 h2 => hrow (by decide) (by decide) (by decide) (HL.out.e.e j e l h1 h2).1)
 have hbw4 : Below w0.heap.size w0 W4 := HBW.out.trans (HOW4.out.below (fun k hk => by
   have h1 := HBASE.out
   rcases hk with rfl | rfl | rfl | rfl | rfl | hk
   · exact h1.1
   · exact h1.2.1
   · exact h1.2.2.1
   · exact h1.2.2.2.1
   · exact h1.2.2.2.2
   · exact (HES.out k hk).1) HBW.out.size)
 have hs4 : W3.heap.size ≤ W4.heap.size := ho4.size
 have HKA := hide (keptActs_i W4 gm yma ymc P.ms hgm4 (by rw [HM.out]; exact HMS.out W4 hbw4) (by rw [HM.out]; exact l5))
 rw [HM.out] at HKA
 have HKL4 := hide kl4
 have HKQ4 := hide kq4
 clear ho4 hbx hnew hrow hgm4 hbw4 x0 x1 x2 x3 x4 x5 a0 a1 a2 a3 a4 al c0 c1 c2 c3 c4 cl hs4
 obtain ⟨a0, a1, a2, a3, a4, al⟩ := blk5' kl4
 obtain ⟨c0, c1, c2, c3, c4, cl⟩ := blk5' kq4
 clear kl4 kq4
 go_wp2_with fail
 go_at_call 46
 refine HKA.out.mono ?_
 rintro en W5 ⟨rfl, ho5⟩
 have hgw : gm < w.heap.size := HLTS.out.2.2.2.2
 have HOW5 : Hid (Only (fun k => k = gg ∨ k = gv ∨ k = gt ∨ k = gl ∨ k = gm ∨ k ∈ es) w W5) := hide (HOW4.out.trans2 ho5 (fun k hk => .inl (by rw [hk]; exact .inr (.inr (.inr (.inr (.inl rfl)))))))
 have kl5 := HKL4.out.only ho5 (fun e => by omega)
 have kq5 := HKQ4.out.only ho5 (fun e => by omega)
 have HGL5 := hide (HGL4.out.only ho5 (fun e => by have h9 := HL.out.l.ne_ HL.out.m (by decide); exact h9 e))
 have HEV5 : Hid (∀ (j e : Nat) (l : List Ac), es[j]? = some e → P.on[j]? = some l → Blk W5 e 49 (acs (lendA l)).toArray) := hide (fun j e l h1 h2 => (HEV4.out j e l h1 h2).only ho5 (fun h9 => by have := (HES.out e (List.mem_of_getElem? h1)).2.2; omega))
 have HKL5 := hide kl5
 have HKQ5 := hide kq5
 clear ho5 a0 a1 a2 a3 a4 al c0 c1 c2 c3 c4 cl
 obtain ⟨a0, a1, a2, a3, a4, al⟩ := blk5' kl5
 obtain ⟨c0, c1, c2, c3, c4, cl⟩ := blk5' kq5
 clear kl5 kq5
 have hen : es.length = P.on.length := HL.out.e.n
 have hsl : (slv (lrs es P.on) P.on).length = N := by rw [slv_length _ _ (lrs_length _ _ hen), HN.out]
 have g0 : W5.cell? ⟨gl, N, none⟩ = some (.slice none 0 0) := by rw [HGL5.out.cell, List.getElem?_toArray, List.getElem?_append_right (by omega), hsl, Nat.sub_self]; rfl
 have g1 : W5.cell? ⟨gl, N + 1, none⟩ = some (.slice none 0 0) := by rw [HGL5.out.cell, List.getElem?_toArray, List.getElem?_append_right (by omega), hsl, Nat.add_sub_cancel_left]; rfl
 have HSL := hide hsl
 have HEN := hide hen
 clear hsl hen
 go_wp2_with fail
 clear g0 g1
 go_loopw [7, 8] (fun t7 t8 W => ∃ i : Nat, t7 = .bool true ∧ t8 = .int .i64 (i : Int) ∧ i ≤ N ∧ Only (fun k => k = gg ∨ k = gv ∨ k = gt ∨ k = gl ∨ k = gm ∨ k ∈ es) w W ∧ Blk W w.heap.size 28 #[.slice (some ⟨gg, 0, none⟩) P.gh.length (P.gh.length + 3), .slice (some ⟨gv, 0, none⟩) P.vs.length (P.vs.length + 3), .slice (some ⟨gt, 0, none⟩) P.ts.length (P.ts.length + 5), .slice (some ⟨gl, 0, none⟩) N (N + 2), .slice (some ⟨gm, 0, none⟩) M (M + 9)] ∧ Blk W (w.heap.size + 1) 28 #[.slice yga P.gh.length ygc, .slice yva P.vs.length yvc, .slice yta P.ts.length ytc, .slice yoa N yoc, .slice yma M ymc] ∧ Blk W gl 26 (overG i (slv (lrs es P.on) P.on ++ [Value.slice none 0 0, Value.slice none 0 0])).toArray ∧ (∀ (j e : Nat) (l : List Ac), i ≤ j → es[j]? = some e → P.on[j]? = some l → Blk W e 49 (acs (lendA l)).toArray)) (fun _ t8 _ => N - (intOf t8).toNat)
 case atStart => exact ⟨0, rfl, rfl, Nat.zero_le _, HOW5.out, HKL5.out, HKQ5.out, by simpa [overG] using HGL5.out, fun j e l _ h1 h2 => HEV5.out j e l h1 h2⟩
 case round =>
   clear HOW5 HKL5 HKQ5 HGL5 HEV5 a0 a1 a2 a3 a4 al c0 c1 c2 c3 c4 cl
   obtain ⟨i, rfl, rfl, hi, ho, kl, kq, kg, kev⟩ := hrel
   rename World => W
   have HO := hide ho
   have HKLi := hide kl
   have HKQi := hide kq
   have HKG := hide kg
   have HKE := hide kev
   have u3 := IntWalk.i64_in ((i : Int) + 1) (by omega)
   have hi0 : (0 : Int) ≤ (i : Int) := by omega
   obtain ⟨a0, a1, a2, a3, a4, al⟩ := blk5' kl
   obtain ⟨c0, c1, c2, c3, c4, cl⟩ := blk5' kq
   by_cases hlt : i < N
   · have hltI : (i : Int) < (N : Int) := by omega
     have hltN : decide (i < N) = true := by simp [hlt]
     have hltI2 : (i : Int) < (N : Int) + 2 := by omega
     have hltN2 : i < N + 2 := by omega
     obtain ⟨l, hl⟩ : ∃ l, P.on[i]? = some l := ⟨_, List.getElem?_eq_getElem (by rw [HN.out]; exact hlt)⟩
     obtain ⟨e, he⟩ : ∃ e, es[i]? = some e := ⟨_, List.getElem?_eq_getElem (by rw [HEN.out, HN.out]; exact hlt)⟩
     have hbwi : Below w0.heap.size w0 W := HBW.out.trans (ho.below (fun k hk => by
       have h1 := HBASE.out
       rcases hk with rfl | rfl | rfl | rfl | rfl | hk
       · exact h1.1
       · exact h1.2.1
       · exact h1.2.2.1
       · exact h1.2.2.2.1
       · exact h1.2.2.2.2
       · exact (HES.out k hk).1) HBW.out.size)
     obtain ⟨oe, ce, -, hs, ad, ea, hab, cle⟩ := HOV.out W hbwi i l hl
     subst ea
     have hll := HBIG.out l (List.mem_append_left _ (List.mem_of_getElem? hl))
     have hbe := kev i e l (Nat.le_refl _) he hl
     have hsv := slv_get (lrs es P.on) P.on i _ _ (lrs_get es P.on i e l he hl) hl
     have hgc : W.cell? ⟨gl, i, none⟩ = some (.slice (some ⟨e, 0, none⟩) l.length (l.length + 9)) := by
       rw [kg.cell, List.getElem?_toArray]
       exact overG_get (Nat.le_refl _) (by rw [List.getElem?_append_left (by rw [HSL.out]; exact hlt)]; exact hsv)
     have HKA2 := hide (keptActs_i W.drew e oe ce l hbe.drew (hs.below (Below.refl _ W).drew) hll)
     have HEE := hide (HES.out e (List.mem_of_getElem? he))
     have HEM := hide (List.mem_of_getElem? he)
     have HE := hide he
     have hkgl := kg.lt
     have HNE := hide (kg.ne_ hbe (by decide))
     have hgf := kg.frozen i
     clear hl he hs hbe hsv hbwi ho kl kq kg kev hab
     go_upto_region 12 with fail
     go_still_tail 11, (by kernel_rfl)
     change wpList _ _ _ _ _ W.drew
     go_wp2_with fail
     go_at_call 46
     refine HKA2.out.mono ?_
     rintro en W6 ⟨rfl, ho6⟩
     have HO6 := hide (show Only (fun k => k = e) W W6 from (Only.refl _ W).drew.trans ho6)
     have kg6 := HKG.out.only HO6.out HNE.out
     have hgf6 := kg6.frozen i
     have hgc6 : ∃ u, W6.cell? ⟨gl, i, none⟩ = some u := ⟨_, by rw [kg6.cell, List.getElem?_toArray]; exact List.getElem?_eq_getElem (by unfold overG; simp only [List.length_append, List.length_replicate, List.length_drop, HSL.out, List.length_cons, List.length_nil]; omega)⟩
     obtain ⟨u6, hgc6⟩ := hgc6
     have HKG6 := hide kg6
     have hkgl6 := kg6.lt
     clear ho6 kg6
     go_wp2_with fail
     go_roundw
     case rel =>
       have h9 := HKG6.out.set_ i (.slice none 0 0)
       rw [overG_set (by simp only [List.length_append, HSL.out, List.length_cons, List.length_nil]; omega)] at h9
       have hee := HEE.out
       have hgl9 := HLTS.out.2.2.2.1
       refine ⟨i + 1, rfl, by go_num, by omega, (HO.out.trans2 HO6.out (fun k hk => .inl (by rw [hk]; exact .inr (.inr (.inr (.inr (.inr HEM.out))))))).setCell (p := ⟨gl, i, none⟩) (.inl (.inr (.inr (.inr (.inl rfl))))) _, (HKLi.out.only HO6.out (fun h => by omega)).far (p := ⟨gl, i, none⟩) (by show w.heap.size ≠ gl; omega) _, (HKQi.out.only HO6.out (fun h => by omega)).far (p := ⟨gl, i, none⟩) (by show w.heap.size + 1 ≠ gl; omega) _, h9, fun j e' l' hj h1 h2 => ?_⟩
       have h8 := HKE.out j e' l' (by omega) h1 h2
       have h7 := HL.out.e.inc i j e e' (by omega) HE.out h1
       exact (h8.only HO6.out (fun h => by omega)).far (p := ⟨gl, i, none⟩) (fun h => h8.ne_ HKG.out (by decide) h) _
     case measure =>
       simp only [intOf]
       omega
   · have hltI : ¬ (i : Int) < (N : Int) := by omega
     have hltN : decide (i < N) = false := by simp; omega
     clear ho kl kq kg kev
     go_wp2_with fail
     go_ret
     exact ⟨rfl, HO.out⟩
end Go.Proofs.Ytdpokdcendgfeaa
