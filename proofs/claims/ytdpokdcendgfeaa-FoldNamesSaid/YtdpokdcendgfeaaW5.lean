/- Several texts in one: Kids as parts of rows; the walks of slices.Equal at rows and of fold.same. The walks of fold.same and fold.without. fold.row on kids as a value; the walk of fold.without. A region that draws its order, by an invariant: what holds of the operations that are listed, whatever their order. Nothing here names the program. A region that draws its order, walked once in the order of its text, with a letter for each operation's value: what J says of what is listed stands whatever the order. Nothing here names the program. Regions that draw their order over worlds that only grow: a law for each operation. An append behind a full row. Conditions: those of each. -/
import Derived.Test.YtdpokdcendgfeaaW4
import Derived.Test.YtdpokdcendgfeaaW1
import Derived.Orders
import Derived.Tactics
import Derived.Tactics2
import Derived.Still
import Derived.KernelRfl
set_option linter.unusedSimpArgs false
set_option linter.unusedVariables false
set_option maxHeartbeats 80000000
namespace Go.Proofs.Ytdpokdcendgfeaa
open Go.RowKit
/-- a part of rows -/
def sub (l : List Ac) (r : Nat × Nat) : List Ac := (l.drop r.1).take (r.2 - r.1)
theorem sub_len {l : List Ac} {r : Nat × Nat} (h : r.2 ≤ l.length) : (sub l r).length = r.2 - r.1 := by
 unfold sub
 rw [List.length_take, List.length_drop]
 omega
theorem acs_app (l m : List Ac) : acs (l ++ m) = acs l ++ acs m := by simp [acs]
theorem src_sub {w : World} {a : Addr} {l : List Ac} {r : Nat × Nat} (h : Src w (some a) l.length (acs l)) (h1 : r.1 ≤ r.2) (h2 : r.2 ≤ l.length) : Src w (some (a.add (r.1 * 6))) (sub l r).length (acs (sub l r)) := fun hpos => by
 obtain ⟨ad, e, hb, hx⟩ := h (by rw [sub_len h2] at hpos; omega)
 injection e with e
 subst e
 refine ⟨_, rfl, by rw [add_block]; exact hb, fun j v hj => ?_⟩
 rw [add_add]
 refine hx _ _ ?_
 have e1 : l = l.take r.1 ++ (sub l r ++ l.drop r.2) := by
   unfold sub
   rw [show l.drop r.2 = (l.drop r.1).drop (r.2 - r.1) by rw [List.drop_drop]; congr 1; omega, List.take_append_drop, List.take_append_drop]
 rw [e1, acs_app, acs_app, List.getElem?_append_right (by rw [acs_len3, List.length_take]; omega), acs_len3, List.length_take, show r.1 * 6 + j - min r.1 l.length * 6 = j by rw [Nat.min_eq_left (by omega)]; omega, List.getElem?_append_left (List.getElem?_eq_some_iff.1 hj).1]
 exact hj
theorem Ro.sub {w : World} {a : Addr} {c : Nat} {l : List Ac} {r : Nat × Nat} (h : Ro w a c l) (h1 : r.1 ≤ r.2) (h2 : r.2 ≤ l.length) : Ro w (a.add (r.1 * 6)) (r.2 - r.1) (sub l r) :=
 ⟨src_sub h.s h1 h2, by rw [sub_len h2]; exact Nat.le_refl _, by have := h.n; have := h.m; omega⟩
/-- spans that are told of rows are parts of them -/
theorem kidsS_in (l : List Ac) : ∀ (m k : Nat) (sp : List (Nat × Nat)), kidsS l m k = some sp → k ≤ l.length → sp.length = m ∧ ∀ r ∈ sp, k ≤ r.1 ∧ r.1 < r.2 ∧ r.2 ≤ l.length
 | 0, k, sp, h, hk => by
   simp only [kidsS, Option.some.injEq] at h
   subst h
   simp
 | m + 1, k, sp, h, hk => by
   unfold kidsS at h
   cases he : endS l k 1 with
   | none => rw [he] at h; simp at h
   | some e =>
     rw [he] at h
     simp only [Option.map_eq_some_iff] at h
     obtain ⟨sp', h1, rfl⟩ := h
     obtain ⟨h2, h3, h4⟩ := endS_le l _ k 1 e rfl he hk
     obtain ⟨h5, h6⟩ := kidsS_in l m e sp' h1 h3
     refine ⟨by simp [h5], fun r hr => ?_⟩
     rcases List.mem_cons.1 hr with rfl | hr
     · exact ⟨Nat.le_refl _, h4 (by decide), h3⟩
     · obtain ⟨h7, h8, h9⟩ := h6 r hr
       exact ⟨by omega, h8, h9⟩
theorem slv_sub {l : List Ac} {a : Addr} : ∀ (sp : List (Nat × Nat)), (∀ r ∈ sp, r.1 < r.2 ∧ r.2 ≤ l.length) → slv (sp.map fun r => (some (a.add (r.1 * 6)), r.2 - r.1)) (sp.map (sub l)) = sp.map (spv a)
 | [], _ => rfl
 | r :: sp, h => by
   simp only [List.map_cons, slv, spv]
   rw [slv_sub sp (fun q hq => h q (List.mem_cons_of_mem _ hq)), sub_len (h r (List.mem_cons_self ..)).2]
theorem own_cap {w : World} {B : Nat} {t : TypeId} {sz n c : Nat} {oa : Option Addr} {xs : List Value} (h : w.ownsRow B t sz (.slice oa n c) n xs) : n ≤ c := by
 rcases h.2 with ⟨_, h0⟩ | ⟨g, cap, cur, e, hb, hg, h1, _⟩
 · omega
 · injection e with e1 e2 e3
   omega
theorem kids_r {w : World} {a : Addr} {c : Nat} {l : List Ac} {i : Nat} {x : Ac} {sp : List (Nat × Nat)} (h : Ro w a c l) (hs : Small l) (hx : l[i]? = some x) (hk : kidsS l x.n.toNat (i + 1) = some sp) (W : World) (hW : Below w.heap.size w W) :
   Calls Try.prog 114 #[.slice (some a) l.length c, .int .i64 (i : Int)] W fun en w' => ∃ v, en = .returned v ∧ KsM w' v (sp.map (sub l)) ∧ Below W.heap.size W w' := by
 have h' := h.below hW
 refine (kids_i W a c l i x sp h'.s hs hx hk h'.n h'.m).mono fun en w' ⟨v, e, ho, hb⟩ => ⟨v, e, ?_, hb⟩
 have hil := (List.getElem?_eq_some_iff.1 hx).1
 obtain ⟨h1, h2⟩ := kidsS_in l _ _ _ hk (by omega)
 obtain ⟨oa, cp, rfl⟩ := own_slice ho
 have hsv := slv_sub (a := a) sp (fun r hr => (h2 r hr).2)
 refine ⟨oa, cp, sp.map fun r => (some (a.add (r.1 * 6)), r.2 - r.1), by rw [List.length_map], by rw [List.length_map, hsv]; exact own_src ho, ⟨by simp, fun j oa' c' l' e1 e2 => ?_⟩, by rw [List.length_map]; exact own_cap ho⟩
 rw [List.getElem?_map] at e1 e2
 cases hj : sp[j]? with
 | none => rw [hj] at e1; simp at e1
 | some r =>
   rw [hj] at e1 e2
   simp only [Option.map_some, Option.some.injEq, Prod.mk.injEq] at e1 e2
   obtain ⟨rfl, rfl⟩ := e1
   subst e2
   obtain ⟨_, h3, h4⟩ := h2 r (List.mem_of_getElem? hj)
   have h5 := (h'.below hb).sub (r := r) (by omega) h4
   exact ⟨h5.s, h5.n, h5.m⟩
theorem neA (w : World) (x0 x1 x2 x3 x4 x5 y0 y1 y2 y3 y4 y5 : Int) : (binOp .neq 49 (.agg #[.int .i64 x0, .int .i64 x1, .int .i64 x2, .int .i64 x3, .int .i64 x4, .int .i64 x5]) (.agg #[.int .i64 y0, .int .i64 y1, .int .i64 y2, .int .i64 y3, .int .i64 y4, .int .i64 y5])).run Try.prog w =
   .ok (.bool (!decide ((⟨x0, x1, x2, x3, x4, x5⟩ : Ac) = ⟨y0, y1, y2, y3, y4, y5⟩))) w := by
 have h1 := run_equalIn_agg (P := Try.prog) w 9999 49 #[.int .i64 x0, .int .i64 x1, .int .i64 x2, .int .i64 x3, .int .i64 x4, .int .i64 x5] #[.int .i64 y0, .int .i64 y1, .int .i64 y2, .int .i64 y3, .int .i64 y4, .int .i64 y5] u49 s49
 have h2 := eqFields_int (P := Try.prog) (w := w) (d := 9998) (t := 3) (k := .i64) Try.underlying3 #[.int .i64 x0, .int .i64 x1, .int .i64 x2, .int .i64 x3, .int .i64 x4, .int .i64 x5] #[.int .i64 y0, .int .i64 y1, .int .i64 y2, .int .i64 y3, .int .i64 y4, .int .i64 y5] (Try.prog.fieldsOf 49).toList [(x0, 0), (x1, 1), (x2, 2), (x3, 3), (x4, 4), (x5, 5)] [(y0, 0), (y1, 1), (y2, 2), (y3, 3), (y4, 4), (y5, 5)] f49 rfl (by simp) (by simp)
 rw [run_neq_struct, h1, h2]
 simp
set_option maxRecDepth 100000 in
theorem equalA_i (w : World) (oa ob : Option Addr) (ca cb : Nat) (l m : List Ac) (ha : Src w oa l.length (acs l)) (hb : Src w ob m.length (acs m)) (hl : l.length ≤ 4194304) :
   Calls Try.prog 184 #[.slice oa l.length ca, .slice ob m.length cb] w fun en w' => en = .returned (.bool (decide (l = m))) ∧ Below w.heap.size w w' := by
 have HA := hide ha
 have HB := hide hb
 have hne := neA
 have hgd := g49
 obtain ⟨N, hN⟩ : ∃ N, l.length = N := ⟨_, rfl⟩
 obtain ⟨M, hM⟩ : ∃ M, m.length = M := ⟨_, rfl⟩
 rw [hN] at hl
 rw [hN, hM]
 have HN := hide hN
 have HM := hide hM
 clear ha hb hN hM
 by_cases hNM : N = M
 case neg =>
   have hnb : ((N : Int) != (M : Int)) = true := by simp; omega
   have HF := hide (show decide (l = m) = false by
     rw [decide_eq_false_iff_not]
     rintro rfl
     exact hNM (HN.out.symm.trans HM.out))
   clear hNM
   go_enter Try.func184, Try.ntmps184
   go_wp2_with fail
   go_ret
   exact ⟨by rw [HF.out]; first | done | rfl, Below.refl _ _⟩
 subst hNM
 have hnb : ((N : Int) != (N : Int)) = false := by simp
 go_enter Try.func184, Try.ntmps184
 go_wp2_with fail
 go_loopw [13] (fun t13 W => ∃ i : Nat, t13 = .int .i64 (i : Int) ∧ i ≤ N ∧ Below w.heap.size w W ∧ Hid (∀ j x y, j < i → l[j]? = some x → m[j]? = some y → x = y)) (fun t13 _ => N - (intOf t13).toNat)
 case atStart => exact ⟨0, rfl, Nat.zero_le _, Below.refl _ _, hide (fun j x y h => absurd h (Nat.not_lt_zero _))⟩
 case round =>
   obtain ⟨i, rfl, hi, hw, HE⟩ := hrel
   rename World => W
   have HW := hide hw
   have u1 := IntWalk.i64_in ((i : Int) + 1) (by omega)
   have hi0 : (0 : Int) ≤ (i : Int) := by omega
   by_cases hlt : i < N
   · have hltI : (i : Int) < (N : Int) := by omega
     obtain ⟨x, hx⟩ : ∃ x, l[i]? = some x := ⟨_, List.getElem?_eq_getElem (by rw [HN.out]; exact hlt)⟩
     obtain ⟨y, hy⟩ : ∃ y, m[i]? = some y := ⟨_, List.getElem?_eq_getElem (by rw [HM.out]; exact hlt)⟩
     obtain ⟨ad, e, hab, q0, q1, q2, q3, q4, q5⟩ := acs_row (HA.out.below hw) hx
     obtain ⟨ae, f, hbb, p0, p1, p2, p3, p4, p5⟩ := acs_row (HB.out.below hw) hy
     subst e f
     have HX := hide hx
     have HY := hide hy
     obtain ⟨x0, x1, x2, x3, x4, x5⟩ := x
     obtain ⟨y0, y1, y2, y3, y4, y5⟩ := y
     simp only at q0 q1 q2 q3 q4 q5 p0 p1 p2 p3 p4 p5
     obtain ⟨bb, hbb2⟩ : ∃ b, decide ((⟨x0, x1, x2, x3, x4, x5⟩ : Ac) = ⟨y0, y1, y2, y3, y4, y5⟩) = b := ⟨_, rfl⟩
     have hne2 := fun W => neA W x0 x1 x2 x3 x4 x5 y0 y1 y2 y3 y4 y5
     rw [hbb2] at hne2
     have HBB := hide hbb2
     clear hne hx hy hab hbb hbb2 hw
     cases bb with
     | true =>
       simp only [Bool.not_true] at hne2
       go_wp2_with fail
       go_quiet (fail)
       go_wp2_with fail
       go_roundw
       case rel =>
         refine ⟨i + 1, by go_num, by omega, below_drewN HW.out _, hide (fun j x y hj h1 h2 => ?_)⟩
         rcases Nat.lt_succ_iff_lt_or_eq.1 hj with h9 | h9
         · exact HE.out j x y h9 h1 h2
         · subst h9
           rw [HX.out] at h1
           rw [HY.out] at h2
           rw [← Option.some.inj h1, ← Option.some.inj h2]
           exact of_decide_eq_true HBB.out
       case measure => simp [intOf]; omega
     | false =>
       simp only [Bool.not_false] at hne2
       have HF := hide (show decide (l = m) = false by
         rw [decide_eq_false_iff_not]
         rintro rfl
         have h9 := Option.some.inj (HX.out.symm.trans HY.out)
         rw [h9] at HBB
         have := HBB.out
         simp at this)
       go_wp2_with fail
       go_quiet (fail)
       go_wp2_with fail
       go_ret
       exact ⟨by rw [HF.out]; first | done | rfl, below_drewN HW.out _⟩
   · have hltI : ¬ (i : Int) < (N : Int) := by omega
     have HT := hide (show decide (l = m) = true by
       rw [decide_eq_true_eq]
       apply List.ext_getElem?
       intro j
       by_cases hj : j < N
       · obtain ⟨x, hx⟩ : ∃ x, l[j]? = some x := ⟨_, List.getElem?_eq_getElem (by rw [HN.out]; exact hj)⟩
         obtain ⟨y, hy⟩ : ∃ y, m[j]? = some y := ⟨_, List.getElem?_eq_getElem (by rw [HM.out]; exact hj)⟩
         rw [hx, hy, HE.out j x y (by omega) hx hy]
       · rw [List.getElem?_eq_none (by rw [HN.out]; omega), List.getElem?_eq_none (by rw [HM.out]; omega)])
     clear hw
     go_wp2_with fail
     go_ret
     exact ⟨by rw [HT.out]; first | done | rfl, HW.out⟩
end Go.Proofs.Ytdpokdcendgfeaa
namespace Go.Proofs.Ytdpokdcendgfeaa
open Go.RowKit
theorem Ro.row {w : World} {a : Addr} {c : Nat} {l : List Ac} {x : Ac} (h : Ro w a c l) (hx : l[0]? = some x) : RowAt w a x ∧ a.block < w.heap.size ∧ 0 < l.length := by
 have hl := (List.getElem?_eq_some_iff.1 hx).1
 obtain ⟨ad, e, hb, hr⟩ := acs_row h.s hx
 injection e with e
 subst e
 have e0 : a.add (0 * 6) = a := by simp [Addr.add]
 rw [e0] at hr
 exact ⟨hr, hb, hl⟩
theorem Ro.row1 {w : World} {a : Addr} {c : Nat} {l : List Ac} {x : Ac} (h : Ro w a c l) (hx : l[1]? = some x) : RowAt w ⟨a.block, a.off + 6, none⟩ x ∧ 1 < l.length := by
 have hl := (List.getElem?_eq_some_iff.1 hx).1
 obtain ⟨ad, e, hb, hr⟩ := acs_row h.s hx
 injection e with e
 subst e
 have e0 : a.add (1 * 6) = ⟨a.block, a.off + 6, none⟩ := by simp [Addr.add]
 rw [e0] at hr
 exact ⟨hr, hl⟩
/-- the kids of a block's first kid, if that is an RIf -/
def innerK (b : List Ac) : Option (List (Nat × Nat)) :=
 match b[0]?, b[1]? with
 | some b0, some b1 => if b0.n = 0 ∨ b1.k ≠ 2 then none else kidsS b b1.n.toNat 2
 | _, _ => none
/-- fold.same, as a function -/
def sameV (b c : List Ac) : Bool :=
 match innerK b with
 | some (r :: _) => decide (sub b r = c)
 | _ => false
set_option maxRecDepth 100000 in
theorem same_i (w : World) {a ac : Addr} {ca cc : Nat} {b c : List Ac} {b0 : Ac} (hb : Ro w a ca b) (hc : Ro w ac cc c) (hs : Small b) (h0 : b[0]? = some b0) (hn : b0.n ≠ 0 → ∃ b1, b[1]? = some b1 ∧ (b1.k = 2 → ∃ r sp, kidsS b b1.n.toNat 2 = some (r :: sp))) (hl : b.length ≤ 4194304) :
   Calls Try.prog 168 #[.slice (some a) b.length ca, .slice (some ac) c.length cc] w fun en w' => ∃ v, en = .returned (.tuple #[v, .bool (sameV b c)]) ∧ (sameV b c = true → ∃ sp, innerK b = some sp ∧ KsM w' v (sp.map (sub b))) ∧ Below w.heap.size w w' := by
 obtain ⟨⟨p0, _, _, _, _, p5⟩, hab, hl0⟩ := hb.row h0
 have hl0I : (0 : Int) < (b.length : Int) := by omega
 by_cases hz : b0.n = 0
 · have hV : sameV b c = false := by
     unfold sameV innerK
     rw [h0]
     cases hb1 : b[1]? with
     | none => rfl
     | some b1 => simp [hz]
   have HV := hide hV
   have hzb : (b0.n == 0) = true := by simp [hz]
   clear hV hn h0 hs hb hc hz
   go_enter Try.func168, Try.ntmps168
   go_wp2_with fail
   go_ret2
   rw [HV.out]
   exact ⟨_, rfl, fun h => by simp at h, Below.refl _ _⟩
 obtain ⟨b1, h1, hk⟩ := hn hz
 obtain ⟨⟨q0, _, _, _, _, q5⟩, hl1⟩ := hb.row1 h1
 have hl1I : (1 : Int) < (b.length : Int) := by omega
 have hzb : (b0.n == 0) = false := by simp [hz]
 by_cases hk2 : b1.k = 2
 case neg =>
   have hV : sameV b c = false := by
     unfold sameV innerK
     rw [h0, h1]
     simp [hz, hk2]
   have HV := hide hV
   have hkb : (b1.k != 2) = true := by simp [hk2]
   clear hV hn h0 h1 hs hb hc hz hk2 hk
   go_enter Try.func168, Try.ntmps168
   go_wp2_with fail
   go_ret2
   rw [HV.out]
   exact ⟨_, rfl, fun h => by simp at h, Below.refl _ _⟩
 obtain ⟨r, sp, hks⟩ := hk hk2
 have hI : innerK b = some (r :: sp) := by
   unfold innerK
   rw [h0, h1]
   simp only
   rw [if_neg (by simp [hz, hk2]), hks]
 have hV : sameV b c = decide (sub b r = c) := by
   unfold sameV
   rw [hI]
 obtain ⟨t, ht⟩ : ∃ t, decide (sub b r = c) = t := ⟨_, rfl⟩
 rw [ht] at hV
 have HV := hide hV
 have HT := hide ht
 have HI := hide hI
 have hkb : (b1.k != 2) = false := by simp [hk2]
 have hK1 := kids_r hb hs h1 hks w (Below.refl _ _)
 rw [show ((1 : Nat) : Int) = 1 from rfl] at hK1
 have HK := hide hK1
 clear hK1
 have HC := hide hc
 obtain ⟨_, hin⟩ := kidsS_in _ _ _ _ hks (by omega)
 obtain ⟨_, hr1, hr2⟩ := hin r (List.mem_cons_self ..)
 have HSL := hide (sub_len (l := b) (r := r) hr2)
 have hpos : 0 < (sub b r).length := by rw [HSL.out]; omega
 have hle4 : (sub b r).length ≤ 4194304 := by rw [HSL.out]; omega
 have HEQ := hide (fun (W : World) (aa : Addr) (cx : Nat) (hh : Ro W aa cx (sub b r)) (hW : Below w.heap.size w W) => equalA_i W (some aa) (some ac) cx cc (sub b r) c hh.s (HC.out.s.below hW) hle4)
 obtain ⟨L, hL⟩ : ∃ L, (sub b r).length = L := ⟨_, rfl⟩
 rw [hL] at hpos HEQ
 have hLI : (0 : Int) < (L : Int) := by omega
 have HLL := hide hL
 rw [ht] at HEQ
 clear hV ht hI hn h0 h1 hs hb hc hz hk2 hks hin hr1 hr2 hle4 hk hL
 go_enter Try.func168, Try.ntmps168
 go_wp2_with (
   go_at_call 114
   with_reducible refine HK.out.mono ?_
   rintro en w2 ⟨v, rfl, hkm, hb2⟩
   have HKM := hide hkm
   obtain ⟨adk, ck, rfl, habk, _, hx⟩ := hkm.at_ (by simp)
   obtain ⟨ar, cr, qr, rr⟩ := hx 0 (sub b r) rfl (by rw [HLL.out]; exact hpos)
   rw [show adk.add 0 = adk by simp [Addr.add], HLL.out] at qr
   have HRR := hide (HEQ.out w2 ar cr rr hb2)
   have HB2 := hide hb2
   obtain ⟨nk, hnk⟩ : ∃ nk, (List.map (sub b) (r :: sp)).length = nk := ⟨_, rfl⟩
   rw [hnk] at HKM
   rw [hnk]
   have hnkp : (0 : Int) < (nk : Int) := by rw [← hnk]; simp <;> omega
   clear hkm hx hnk rr hb2)
 go_wp2_with (
   go_at_call 184
   with_reducible refine HRR.out.mono ?_
   rintro en w3 ⟨rfl, hb3⟩
   have HB3 := hide hb3
   clear hb3)
 go_ret2
 rw [HV.out]
 exact ⟨_, rfl, fun _ => ⟨_, HI.out, HKM.out.below HB3.out⟩, HB2.out.trans (HB3.out.mono HB2.out.size)⟩
end Go.Proofs.Ytdpokdcendgfeaa
namespace Go.Proofs.Ytdpokdcendgfeaa
open Go.RowKit
theorem own_rin {w : World} {B n : Nat} {u : Value} {l : List Ac} (h : w.ownsRow B 49 6 u n (acs l)) : Rin w u (some l) := by
 have hl : l.length = n := by have := h.1; rw [acs_len3] at this; omega
 subst hl
 rcases h.2 with ⟨e, h0⟩ | ⟨g, cap, cur, e, hb, hg, h1, h2, h3, h4⟩
 · have h9 := own_slice h
   obtain ⟨oa, c, e2⟩ := h9
   rw [e] at e2
   injection e2 with e2 e3 e4
   subst e2 e4
   refine ⟨none, 0, by rw [e, h0], fun hp => by omega, by omega, by decide⟩
 · subst e
   exact ⟨_, cap, rfl, own_src h, h1, h2⟩
theorem row_r (w : World) (x : Ac) (v : Value) (ks : List (List Ac)) (h : KsM w v ks) (hl : ks.length ≤ 200000) (ht : rowsV ks ≤ 200000) :
   Calls Try.prog 120 #[x.val, v] w fun en w' => ∃ u, en = .returned u ∧ Rin w' u (some (x.kid ks.length :: ks.flatten)) ∧ Below w.heap.size w w' := by
 obtain ⟨oa, c, rs, rfl, h1, h2, _⟩ := h
 cases oa with
 | none =>
   have h0 : ks = [] := by
     rcases Nat.eq_zero_or_pos ks.length with h0 | h0
     · exact List.eq_nil_of_length_eq_zero h0
     · obtain ⟨ad, e, _⟩ := h1 h0
       cases e
   subst h0
   refine (row_nil_i w x c).mono fun en w' ⟨u, e, ho, hb⟩ => ⟨u, e, own_rin ho, hb⟩
 | some ad => exact (row_some_i w x ad c rs ks h1 h2 hl ht).mono fun en w' ⟨u, e, ho, hb⟩ => ⟨u, e, own_rin ho, hb⟩
theorem KsM.tail {w : World} {ad : Addr} {n c : Nat} {k : List Ac} {ks : List (List Ac)} (h : KsM w (.slice (some ad) n c) (k :: ks)) : KsM w (.slice (some (ad.add 1)) (n - 1) (c - 1)) ks := by
 obtain ⟨oa, c2, rs, e, h1, h2, h9⟩ := h
 injection e with e1 e2 e3
 subst e1 e2
 cases rs with
 | nil => have := h2.1; simp at this
 | cons r rs =>
   obtain ⟨ra, rc⟩ := r
   refine ⟨some (ad.add 1), c - 1, rs, by simp, fun hp => ?_, ⟨by have := h2.1; simpa using this, fun i oa c l e1 e2 => h2.2 (i + 1) oa c l (by simpa using e1) (by simpa using e2)⟩, by simp at h9; omega⟩
   obtain ⟨a2, e2, hb, hx⟩ := h1 (by simp)
   injection e2 with e2
   subst e2
   refine ⟨_, rfl, by rw [add_block]; exact hb, fun j v hj => ?_⟩
   rw [add_add, Nat.add_comm]
   exact hx (j + 1) v (by simpa [slv] using hj)
/-- rows that are told, as lists -/
def optL (o : Option (List Ac)) : List (List Ac) := match o with | some l => [l] | none => []
/-- fold.without, as a function -/
def withoutV (ks : List (List Ac)) (o : Option (List Ac)) : List Ac := (⟨1, 0, 0, 0, 0, 0⟩ : Ac).kid (optL o ++ ks).length :: (optL o ++ ks).flatten
theorem kidsS_rows (l : List Ac) : ∀ (m k : Nat) (sp : List (Nat × Nat)), kidsS l m k = some sp → k ≤ l.length → rowsV (sp.map (sub l)) + k ≤ l.length
 | 0, k, sp, h, hk => by
   simp only [kidsS, Option.some.injEq] at h
   subst h
   simpa [rowsV] using hk
 | m + 1, k, sp, h, hk => by
   unfold kidsS at h
   cases he : endS l k 1 with
   | none => rw [he] at h; simp at h
   | some e =>
     rw [he] at h
     simp only [Option.map_eq_some_iff] at h
     obtain ⟨sp', h1, rfl⟩ := h
     obtain ⟨h2, h3, h4⟩ := endS_le l _ k 1 e rfl he hk
     have h5 := kidsS_rows l m e sp' h1 h3
     have h6 := sub_len (l := l) (r := (k, e)) h3
     simp only [rowsV, List.map_cons, List.map_map, List.sum_cons] at h5 ⊢
     rw [h6]
     simp only
     omega
theorem row_blk (w : World) (v : Value) (ks : List (List Ac)) (h : KsM w v ks) (hl : ks.length ≤ 200000) (ht : rowsV ks ≤ 200000) :
   Calls Try.prog 120 #[.agg #[.int .i64 1, .int .i64 0, .int .i64 0, .int .i64 0, .int .i64 0, .int .i64 0], v] w fun en w' => ∃ u, en = .returned u ∧ Rin w' u (some ((⟨1, 0, 0, 0, 0, 0⟩ : Ac).kid ks.length :: ks.flatten)) ∧ Below w.heap.size w w' :=
 row_r w ⟨1, 0, 0, 0, 0, 0⟩ v ks h hl ht
theorem KsM.cons {w' : World} {B cl : Nat} {rs : List (Option Addr × Nat)} {ks : List (List Ac)} {l : List Ac} {al : Addr} {u : Value} (he : EvMem w' rs ks) (hl : Ro w' al cl l) (hu : w'.ownsRow B 26 1 u (1 + ks.length) ([Value.slice (some al) l.length cl] ++ slv rs ks)) : KsM w' u (l :: ks) := by
 obtain ⟨oa, c, rfl⟩ := own_slice hu
 rw [Nat.add_comm] at hu
 refine ⟨oa, c, (some al, cl) :: rs, by rw [List.length_cons, Nat.add_comm], own_src hu, ⟨by simp [he.1], fun i oa c l' e1 e2 => ?_⟩, own_cap hu⟩
 cases i with
 | zero =>
   simp at e1 e2
   obtain ⟨rfl, rfl⟩ := e1
   subst e2
   exact ⟨hl.s, hl.n, hl.m⟩
 | succ i => exact he.2 i oa c l' (by simpa using e1) (by simpa using e2)
theorem app_kids {ops : Array Oper} {rest : List Oper} {o : Oper} {a : Act} {Q : Exit → Act → World → Prop} {w : World} (hgd : o.guard = none) (s x : Operand) (ho : o.op = .call { callee := .builtin .append, args := #[s, x], argTypes := #[25, 25] })
   (w0 : World) {g n C cl L : Nat} {A al : Addr} {ks : List (List Ac)} {l : List Ac} (hs : a.eval s = .slice (some ⟨g, 0, none⟩) 1 1) (hlit : w.ownsRow w0.heap.size 26 1 (.slice (some ⟨g, 0, none⟩) 1 1) 1 [Value.slice (some al) L cl]) (hL : l.length = L)
   (hx : a.eval x = .slice (some A) n C) (hk0 : KsM w0 (.slice (some A) n C) ks) (hro : Ro w0 al cl l) (hw : Below w0.heap.size w0 w) (hkl : ks.length ≤ 200000)
   (h : ∀ u w', KsM w' u (l :: ks) → Below w0.heap.size w0 w' → wpList Try.prog ops Q rest (a.put o.dst u) w') :
   wpList Try.prog ops Q (o :: rest) a w := by
 have hg0 := hw.size
 obtain ⟨i3, hi3, hz0, hz1, hz2⟩ := info_parts3 infS
 obtain ⟨oa, c, rs, e, h19, h2, h3⟩ := hk0
 have h1 := h19.below hw
 injection e with e1 e2 e3
 subst e1 e2
 subst hL
 refine wpList_append_own_at _ hgd s x 25 ho w0.heap.size 26 i3 _ 1 24 Try.underlying25 hi3 hz0 hz1 hz2 rfl (by decide) _ 1 _ hs hlit A ks.length C (slv rs ks) hx (by rw [slv_length rs ks h2.1]; omega) (fun j u hj => by
   have hjl := (List.getElem?_eq_some_iff.1 hj).1
   rw [slv_length rs ks h2.1] at hjl
   obtain ⟨ad3, e3, _, hx3⟩ := h1 (by omega)
   cases e3
   exact hx3 j u hj) (slv_one rs ks) (by unfold maxLen; omega) (by omega) hg0 ?_
 intro u7 w7 hown7 hgr7 _ _
 have hb7 := hw.trans (below_grow hgr7 (fun g hg => (hlit.lt g hg).1) hg0)
 exact h u7 w7 (KsM.cons (h2.below hb7) (hro.below hb7) hown7) hb7
set_option maxRecDepth 100000 in
theorem without_i (w : World) {a : Addr} {ca : Nat} {b : List Ac} {b0 : Ac} {r : Nat × Nat} {sp : List (Nat × Nat)} {v : Value} {o : Option (List Ac)} (hb : Ro w a ca b) (hs : Small b) (h0 : b[0]? = some b0) (hks : kidsS b b0.n.toNat 1 = some (r :: sp)) (ho : Rin w v o) (hp : ∀ l, o = some l → 0 < l.length)
   (hl : b.length ≤ 131072) (hlo : ∀ l, o = some l → l.length ≤ (sub b r).length) :
   Calls Try.prog 169 #[.slice (some a) b.length ca, v] w fun en w' => ∃ u, en = .returned u ∧ Rin w' u (some (withoutV (sp.map (sub b)) o)) ∧ Below w.heap.size w w' := by
 have hK1 := kids_r hb hs h0 hks w (Below.refl _ _)
 rw [show ((0 : Nat) : Int) = 0 from rfl] at hK1
 have HK := hide hK1
 have HO := hide ho
 have hbl := (List.getElem?_eq_some_iff.1 h0).1
 have hrw := kidsS_rows b _ _ _ hks (by omega)
 simp only [rowsV, List.map_cons, List.sum_cons] at hrw
 have HRW := hide (show (sub b r).length + rowsV (sp.map (sub b)) ≤ 131072 by simp only [rowsV]; omega)
 have hkl := (kidsS_in b _ _ _ hks (by omega)).1
 have hnb := (hs.2 b0 (List.mem_of_getElem? h0)).2
 obtain ⟨ks, hks9⟩ : ∃ ks, sp.map (sub b) = ks := ⟨_, rfl⟩
 have hspl : ks.length ≤ 131072 := by
   have h1 : ∀ l ∈ ks, 0 < l.length := fun l hl => by
     rw [← hks9] at hl
     obtain ⟨q, hq, rfl⟩ := List.mem_map.1 hl
     obtain ⟨_, h8, h9⟩ := (kidsS_in b _ _ _ hks (by omega)).2 q (List.mem_cons_of_mem _ hq)
     rw [sub_len h9]; omega
   have h2 : ∀ (ls : List (List Ac)), (∀ l ∈ ls, 0 < l.length) → ls.length ≤ rowsV ls := fun ls => by
     induction ls with
     | nil => intro _; simp
     | cons x ls ih =>
       intro h
       have h3 := ih (fun l hl => h l (List.mem_cons_of_mem _ hl))
       have h4 := h x (List.mem_cons_self ..)
       simp only [rowsV, List.map_cons, List.sum_cons, List.length_cons] at h3 ⊢
       omega
   have h3 := h2 ks h1
   have h4 := HRW.out
   rw [hks9] at h4
   omega
 rw [List.map_cons, hks9] at HK
 rw [hks9] at HRW
 rw [hks9]
 clear hK1 hks hrw hkl hnb hks9 h0 hs hb
 cases o with
 | none =>
   obtain rfl : v = .slice none 0 0 := ho
   have HRB := hide (fun (W : World) (v : Value) (h : KsM W v ks) => row_blk W v ks h (by omega) (by have := HRW.out; omega))
   go_enter Try.func169, Try.ntmps169
   go_wp2_with (
     go_at_call 114
     with_reducible refine HK.out.mono ?_
     rintro en w2 ⟨v, rfl, hkm, hb2⟩
     obtain ⟨adk, ck, rfl, habk, hck, hx⟩ := hkm.at_ (by simp)
     have HB2 := hide hb2
     have ht1 := hkm.tail
     rw [show adk.add 1 = ⟨adk.block, adk.off + 1, none⟩ by simp [Addr.add]] at ht1
     have ht2 : ck = 1 → KsM w2 (.slice (some adk) (ks.length + 1 - 1) 0) ks := fun h1 => by
       have h0 : ks = [] := List.eq_nil_of_length_eq_zero (by simp at hck; omega)
       subst h0
       exact ⟨some adk, 0, [], rfl, fun h => absurd h (by simp), ⟨rfl, fun i oa c l h1 h2 => by simp at h1⟩, Nat.le_refl _⟩
     simp only [List.length_cons] at ht1 hck ⊢
     obtain ⟨nk, hnk⟩ : ∃ nk, ks.length + 1 = nk := ⟨_, rfl⟩
     rw [hnk] at ht1 ht2
     rw [hnk]
     have hnkp : (1 : Int) ≤ (nk : Int) := by omega
     have HT1 := hide (HRB.out _ _ ht1)
     have HT2 := hide (fun h => HRB.out _ _ (ht2 h))
     clear hkm hx hnk hb2 ht1 ht2)
   all_goals
     go_wp2_with (
       go_at_call 120
       with_reducible refine (by first | exact HT1.out | exact HT2.out (by omega) : Calls Try.prog 120 _ _ _).mono ?_
       rintro en w3 ⟨u, rfl, hu, hb3⟩
       have HU := hide hu
       have HB3 := hide hb3
       clear hu hb3)
     go_ret
     exact ⟨_, rfl, HU.out, HB2.out.trans (HB3.out.mono HB2.out.size)⟩
 | some l =>
   have hlp := hp l rfl
   have hll := hlo l rfl
   obtain ⟨oal, cl, rfl, hsl, hlc, hlm⟩ := ho
   obtain ⟨al, e9, hbal, _⟩ := hsl hlp
   subst e9
   have HRO := hide (Ro.mk hsl hlc hlm)
   have HRB := hide (fun (W : World) (v : Value) (h : KsM W v (l :: ks)) => row_blk W v (l :: ks) h (by simp; omega) (by have := HRW.out; simp only [rowsV, List.map_cons, List.sum_cons] at this ⊢; omega))
   obtain ⟨L, hL⟩ : ∃ L, l.length = L := ⟨_, rfl⟩
   rw [hL] at hlp
   rw [hL]
   have HL := hide hL
   obtain ⟨i3, hi3, hz0, hz1, hz2⟩ := info_parts3 infS
   clear hp hlo hsl hlc hlm hL
   go_enter Try.func169, Try.ntmps169
   go_wp2_with (first
     | (go_at_call 114
        with_reducible refine HK.out.mono ?_
        rintro en w2 ⟨v, rfl, hkm, hb2⟩
        obtain ⟨adk, ck, rfl, habk, hck, hx⟩ := hkm.at_ (by simp)
        have HB2 := hide hb2
        have ht1 := hkm.tail
        rw [show adk.add 1 = ⟨adk.block, adk.off + 1, none⟩ by simp [Addr.add]] at ht1
        have ht2 : ck = 1 → KsM w2 (.slice (some adk) (ks.length + 1 - 1) 0) ks := fun h1 => by
          have h0 : ks = [] := List.eq_nil_of_length_eq_zero (by simp at hck; omega)
          subst h0
          exact ⟨some adk, 0, [], rfl, fun h => absurd h (by simp), ⟨rfl, fun i oa c l h1 h2 => by simp at h1⟩, Nat.le_refl _⟩
        simp only [List.length_cons] at ht1 hck ⊢
        obtain ⟨nk, hnk⟩ : ∃ nk, ks.length + 1 = nk := ⟨_, rfl⟩
        rw [hnk] at ht1 ht2
        rw [hnk]
        have hnkp : (1 : Int) ≤ (nk : Int) := by omega
        obtain ⟨A, hA⟩ : ∃ A : Addr, (if ck = 1 then some adk else some ⟨adk.block, adk.off + 1, none⟩) = some A := by split <;> exact ⟨_, rfl⟩
        have hta : KsM w2 (.slice (some A) (nk - 1) (ck - 1)) ks := by
          by_cases h1 : ck = 1
          · rw [if_pos h1] at hA
            injection hA with hA
            rw [← hA, show ck - 1 = 0 by omega]
            exact ht2 h1
          · rw [if_neg h1] at hA
            injection hA with hA
            rw [← hA]
            exact ht1
        have HIF := hide hA
        have HTA := hide hta
        clear hA hta
        have HLIT := hide (World.ownsRow_lit (base := w2.heap.size) (e := 26) (size := 1) w2 #[.slice (some al) L cl] 1 (Nat.le_refl _) (by decide) rfl)
        have HB3 := hide ((Below.refl w2.heap.size w2).alloc (Nat.le_refl _) (.cells #[.slice (some al) L cl] 26))
        have HRO2 := hide (HRO.out.below hb2)
        clear hkm hx hnk hb2 ht1 ht2)
     | (at_builtin
        refine app_kids rfl (.tmp 13) (.tmp 14) rfl w2 rfl HLIT.out HL.out (congrArg (fun o => Value.slice o (nk - 1) (ck - 1)) HIF.out) HTA.out HRO2.out HB3.out (by omega) ?_
        intro u7 w7 hk7 hb7
        have HRW7 := hide (HRB.out _ _ hk7)
        have HB7 := hide hb7
        clear hk7 hb7)
     | (go_at_call 120
        with_reducible refine HRW7.out.mono ?_
        rintro en w8 ⟨u, rfl, hu, hb8⟩
        have HU := hide hu
        have HB8 := hide hb8
        clear hu hb8))
   all_goals
     go_ret
     exact ⟨_, rfl, HU.out, HB2.out.trans ((HB7.out.trans (HB8.out.mono HB7.out.size)).mono HB2.out.size)⟩
end Go.Proofs.Ytdpokdcendgfeaa
namespace Go.Proofs.Ytdpokdcendgfeaa
open Go.RowKit
theorem count_set : ∀ (l : List Bool) (j : Nat), l[j]? = some false → (l.set j true).count false + 1 = l.count false
 | [], j, h => by simp at h
 | b :: l, 0, h => by
   simp at h
   subst h
   simp
 | b :: l, j + 1, h => by
   have ih := count_set l j (by simpa using h)
   simp only [List.set_cons_succ, List.count_cons]
   omega
theorem count_zero : ∀ (l : List Bool), l.count false = 0 → ∀ (j : Nat) (b : Bool), l[j]? = some b → b = true
 | [], _, j, b, h => by simp at h
 | x :: l, h0, 0, b, h => by
   simp at h
   subst h
   cases x
   · simp at h0
   · rfl
 | x :: l, h0, j + 1, b, h => count_zero l (by rw [List.count_cons] at h0; omega) j b (by simpa using h)
section
variable {P : Program} {md : Region.Mode} {ops : Array Oper} {Q : Exit → Act → World → Prop}
theorem ready_of_all {listed : Array Bool} (hs : listed.size = ops.size) (h : ∀ j, j < ops.size → listed.getD j false = true) : Region.ready md ops listed = [] := by
 rw [List.eq_nil_iff_forall_not_mem]
 intro j hj
 obtain ⟨h1, o, ho, _⟩ := mem_ready.1 hj
 have hlt := (Array.getElem?_eq_some_iff.1 ho).1
 have h2 := h j hlt
 simp only [Array.getD, hs, hlt, dite_true] at h1 h2
 rw [h1] at h2
 cases h2
theorem all_of_ready {listed : Array Bool} (hs : listed.size = ops.size) (hord : ∀ (j : Nat) (o : Oper), ops[j]? = some o → ∀ e ∈ o.after, e.on < j) (h : Region.ready md ops listed = []) : ∀ j, j < ops.size → listed.getD j false = true := by
 intro j
 induction j using Nat.strongRecOn with
 | ind j ih =>
   intro hj
   cases hl : listed.getD j false with
   | true => rfl
   | false =>
     have hm : j ∈ Region.ready md ops listed := by
       refine mem_ready.2 ⟨?_, _, Array.getElem?_eq_getElem hj, fun e he _ => ih e.on (hord j _ (Array.getElem?_eq_getElem hj) e he) (Nat.lt_trans (hord j _ (Array.getElem?_eq_getElem hj) e he) hj)⟩
       simp only [Array.getD, hs, hj, dite_true] at hl ⊢
       exact hl
     rw [h] at hm
     cases hm
/-- Whatever the order: J holds of what is listed. -/
theorem wpAny_inv (J : Array Bool → Act → World → Prop) (hord : ∀ (j : Nat) (o : Oper), ops[j]? = some o → ∀ e ∈ o.after, e.on < j)
   (hstep : ∀ (listed : Array Bool) (a : Act) (w : World) (j : Nat) (o : Oper), J listed a w → listed.getD j true = false → ops[j]? = some o → (∀ e ∈ o.after, Region.binds md e = true → listed.getD e.on false = true) → wpOp P ops Q j (fun a' w' => J (listed.setIfInBounds j true) a' w') a w)
   (hend : ∀ (listed : Array Bool) (a : Act) (w : World), J listed a w → (∀ j, j < ops.size → listed.getD j false = true) → Q .normal a w) :
   ∀ (fuel : Nat) (listed : Array Bool) (a : Act) (w : World), J listed a w → listed.size = ops.size → listed.toList.count false ≤ fuel → wpAny P md ops Q fuel listed a w
 | 0, listed, a, w, hJ, hs, hc => by
   have hall : ∀ j, j < ops.size → listed.getD j false = true := fun j hj => by
     have h1 := count_zero listed.toList (by omega) j (listed[j]'(by omega)) (by rw [Array.getElem?_toList, Array.getElem?_eq_getElem (by omega)])
     simp only [Array.getD, hs, hj, dite_true]
     exact h1
   exact ⟨ready_of_all hs hall, hend _ _ _ hJ hall⟩
 | fuel + 1, listed, a, w, hJ, hs, hc => by
   refine ⟨fun h0 => hend _ _ _ hJ (all_of_ready hs hord h0), fun i hi => ?_⟩
   obtain ⟨h1, o, ho, h2⟩ := mem_ready.1 hi
   have hlt := (Array.getElem?_eq_some_iff.1 ho).1
   refine wpOp_mono (fun a' w' hJ' => wpAny_inv J hord hstep hend fuel _ a' w' hJ' (by simpa using hs) ?_) (hstep listed a w i o hJ h1 ho h2)
   have h3 : listed.toList[i]? = some false := by
     rw [Array.getElem?_toList, Array.getElem?_eq_getElem (by omega)]
     simp only [Array.getD, hs, hlt, dite_true] at h1
     simpa using h1
   have h4 := count_set listed.toList i h3
   simp only [Array.toList_setIfInBounds]
   omega
theorem wp_region_inv {id : Nat} {a : Act} {w : World} {l : List Oper} (J : Array Bool → Act → World → Prop) (hm : P.follows .mixedOrders = true) (hord : ∀ (j : Nat) (o : Oper), l.toArray[j]? = some o → ∀ e ∈ o.after, e.on < j)
   (hstart : J (Array.replicate l.toArray.size false) a w.drew)
   (hstep : ∀ (listed : Array Bool) (a : Act) (w : World) (j : Nat) (o : Oper), J listed a w → listed.getD j true = false → l.toArray[j]? = some o → (∀ e ∈ o.after, Region.binds .any e = true → listed.getD e.on false = true) → wpOp P l.toArray Q j (fun a' w' => J (listed.setIfInBounds j true) a' w') a w)
   (hend : ∀ (listed : Array Bool) (a : Act) (w : World), J listed a w → (∀ j, j < l.toArray.size → listed.getD j false = true) → Q .normal a w) : (Code.region id l.toArray true).wp P Q a w :=
 wp_region_any hm (wpAny_inv J hord hstep hend _ _ _ _ hstart (by simp) (by simp))
end
end Go.Proofs.Ytdpokdcendgfeaa
namespace Go.Proofs.Ytdpokdcendgfeaa
open Go.RowKit
def upn {α : Type} (f : Nat → α) (j : Nat) (v : α) : Nat → α := fun k => if k = j then v else f k
theorem upn_ne {α : Type} {f : Nat → α} {j k : Nat} {v : α} (h : k ≠ j) : upn f j v k = f k := if_neg h
theorem upn_eq {α : Type} {f : Nat → α} {j : Nat} {v : α} : upn f j v j = v := if_pos rfl
/-- what an operation tells, and where it leads -/
def parUpon (P : Program) (R : Value → World → Prop) : Result Next → Prop
 | .ok (.value u) w' => R u w'
 | .ok .skip w' => R undef w'
 | .ok (.enter f args) w' => Calls P f args w' (fun e w'' => ∃ u, e = .returned u ∧ R u w'')
 | _ => False
def par (P : Program) (o : Oper) (a : Act) (w : World) (R : Value → World → Prop) : Prop := parUpon P R ((execOp a.eval o).run P w)
theorem wp_of_par {P : Program} {o : Oper} {a b : Act} {w : World} {R : Value → World → Prop} {K : Act → World → Prop} {Q : Exit → Act → World → Prop} (he : execOp a.eval o = execOp b.eval o) (h : par P o b w R) (hK : ∀ u w', R u w' → K (a.put o.dst u) w') : o.wp P a w K Q := by
 unfold par at h
 rw [← he] at h
 unfold Oper.wp
 generalize (execOp a.eval o).run P w = r at *
 cases r with
 | ok n w' =>
   cases n <;> simp only [parUpon] at h <;> simp only [Oper.upon]
   case value u => exact hK _ _ h
   case skip => exact hK _ _ h
   case enter f args =>
     exact h.mono fun e w'' ⟨u, he, hu⟩ => by subst he; exact hK _ _ hu
 | halt x w' => simp only [parUpon] at h
/-- the frame in which those in S have come up -/
def layP : List Oper → Nat → (Nat → Bool) → (Nat → Value) → Act → Act
 | [], _, _, _, a => a
 | o :: l, i, S, vs, a => layP l (i + 1) S vs (if S i then a.put o.dst (vs i) else a)
section
variable {ops : Array Oper}
/-- two frames that an operation cannot tell apart -/
def Alike (o : Oper) (ops : Array Oper) (a b : Act) : Prop := ∀ t ∈ o.looksAt ops, a.tmps[t]? = b.tmps[t]?
theorem put_get {a : Act} {dst : Option Tmp} {v : Value} {t : Tmp} (h : dst ≠ some t) : (a.put dst v).tmps[t]? = a.tmps[t]? := by
 cases dst with
 | none => rfl
 | some d =>
   have hne : d ≠ t := fun e => h (e ▸ rfl)
   simp [Act.put, Array.getElem?_setIfInBounds_ne hne]
theorem alike_put {o : Oper} {a b : Act} {dst : Option Tmp} {v : Value} (hs : a.tmps.size = b.tmps.size) (h : Alike o ops a b) : Alike o ops (a.put dst v) (b.put dst v) := by
 intro t ht
 cases dst with
 | none => exact h t ht
 | some d =>
   by_cases hd : d = t
   · subst hd
     simp only [Act.put, Array.getElem?_setIfInBounds, hs]
     simp
   · rw [put_get (by simpa using hd), put_get (by simpa using hd)]
     exact h t ht
theorem put_size {a : Act} {dst : Option Tmp} {v : Value} : (a.put dst v).tmps.size = a.tmps.size := by
 cases dst <;> simp [Act.put]
theorem alike_layP {o : Oper} : ∀ (l : List Oper) (i : Nat) (S T : Nat → Bool) (vs : Nat → Value) (a b : Act), a.tmps.size = b.tmps.size → Alike o ops a b → (∀ k x, l[k]? = some x → S (i + k) = T (i + k) ∨ ∀ d, x.dst = some d → d ∉ o.looksAt ops) → Alike o ops (layP l i S vs a) (layP l i T vs b)
 | [], _, _, _, _, _, _, _, h, _ => h
 | x :: l, i, S, T, vs, a, b, hs, h, hl => by
   unfold layP
   have h0 := hl 0 x rfl
   refine alike_layP l (i + 1) S T vs _ _ ?_ ?_ (fun k y hk => by have := hl (k + 1) y (by simpa using hk); rwa [Nat.add_assoc, Nat.add_comm 1 k])
   · split <;> split <;> simp [put_size, hs]
   · rcases h0 with h0 | h0
     · rw [Nat.add_zero] at h0
       rw [h0]
       split
       · exact alike_put hs h
       · exact h
     · have hput : ∀ (c : Act) v, Alike o ops (c.put x.dst v) c := fun c v t ht => put_get (fun e => h0 t e ht)
       intro t ht
       split <;> split
       · exact ((hput a _ t ht).trans (h t ht)).trans (hput b _ t ht).symm
       · exact (hput a _ t ht).trans (h t ht)
       · exact (h t ht).trans (hput b _ t ht).symm
       · exact h t ht
theorem exec_alike {o : Oper} {a b : Act} (hs : ∀ cs b, o.op ≠ .select cs b) (h : Alike o ops a b) : execOp a.eval o = execOp b.eval o :=
 execOp_congr o hs fun x hx => by
   cases x with
   | tmp t =>
     have := h t (List.mem_append_left _ (List.mem_filterMap.2 ⟨.tmp t, by simpa using hx, rfl⟩))
     simp only [Act.eval]
     rw [Array.getD_eq_getD_getElem?, Array.getD_eq_getD_getElem?, this]
   | _ => rfl
theorem wanted_alike {o : Oper} {a b : Act} (h : Alike o ops a b) : Region.wanted o (yielded ops a.tmps) = Region.wanted o (yielded ops b.tmps) := by
 unfold Region.wanted
 cases hg : o.guard with
 | none => rfl
 | some gw =>
   obtain ⟨g, want⟩ := gw
   have hy : yielded ops a.tmps g = yielded ops b.tmps g := by
     unfold yielded
     cases ht : (ops[g]?).bind (·.dst) with
     | none => rfl
     | some t =>
       have h1 := h t (by simp [Oper.looksAt, hg, ht])
       simp only [Option.bind_some, h1]
   simp only [hy]
theorem layP_put : ∀ (l : List Oper) (i : Nat) (S : Nat → Bool) (vs : Nat → Value) (a : Act) (d : Option Tmp) (u : Value), (∀ (k : Nat) (x : Oper), l[k]? = some x → ∀ t, x.dst = some t → d ≠ some t) → layP l i S vs (a.put d u) = (layP l i S vs a).put d u
 | [], _, _, _, _, _, _, _ => rfl
 | x :: l, i, S, vs, a, d, u, h => by
   unfold layP
   have h0 := h 0 x rfl
   have ih := fun c => layP_put l (i + 1) S vs c d u (fun k y hk => h (k + 1) y (by simpa using hk))
   split
   · rw [Act.put_comm a u (vs i) (fun t ht ht2 => h0 t ht2 ht), ih]
   · rw [ih]
theorem layP_congr : ∀ (l : List Oper) (i : Nat) (S T : Nat → Bool) (vs us : Nat → Value) (a : Act), (∀ k, k < l.length → S (i + k) = T (i + k) ∧ vs (i + k) = us (i + k)) → layP l i S vs a = layP l i T us a
 | [], _, _, _, _, _, _, _ => rfl
 | x :: l, i, S, T, vs, us, a, h => by
   unfold layP
   have h0 := h 0 (by simp)
   rw [Nat.add_zero] at h0
   rw [h0.1, h0.2]
   exact layP_congr l (i + 1) S T vs us _ (fun k hk => by have := h (k + 1) (by simpa using hk); rwa [Nat.add_assoc, Nat.add_comm 1 k])
/-- one more has come up -/
theorem layP_more : ∀ (l : List Oper) (i : Nat) (S : Nat → Bool) (vs : Nat → Value) (a : Act) (j : Nat) (o : Oper) (u : Value), l[j]? = some o → S (i + j) = false → (∀ (k k' : Nat) (x y : Oper), l[k]? = some x → l[k']? = some y → k ≠ k' → ∀ t, x.dst = some t → y.dst ≠ some t) → (layP l i S vs a).put o.dst u = layP l i (upn S (i + j) true) (upn vs (i + j) u) a
 | [], _, _, _, _, _, _, _, h, _, _ => by simp at h
 | x :: l, i, S, vs, a, 0, o, u, h, hS, hd => by
   simp at h
   subst h
   rw [Nat.add_zero] at hS
   unfold layP
   rw [hS]
   simp only [Nat.add_zero, Bool.false_eq_true, if_false, upn, if_true]
   rw [← layP_put l (i + 1) S vs a x.dst u (fun k y hk t ht ht2 => hd (k + 1) 0 y x (by simpa using hk) rfl (by omega) t ht ht2)]
   refine layP_congr _ _ _ _ _ _ _ (fun k hk => ?_)
   have h1 : i + 1 + k ≠ i := by omega
   exact ⟨(if_neg h1).symm, (if_neg h1).symm⟩
 | x :: l, i, S, vs, a, j + 1, o, u, h, hS, hd => by
   unfold layP
   have hne : i ≠ i + (j + 1) := by omega
   simp only [upn, hne, if_false]
   have ih := layP_more l (i + 1) S vs (if S i = true then a.put x.dst (vs i) else a) j o u (by simpa using h) (by rwa [Nat.add_assoc, Nat.add_comm 1 j]) (fun k k' y z hk hk' hne => hd (k + 1) (k' + 1) y z (by simpa using hk) (by simpa using hk') (by omega))
   rw [ih]
   refine layP_congr _ _ _ _ _ _ _ (fun k hk => ?_)
   have e : i + 1 + j = i + (j + 1) := by omega
   rw [e]
   exact ⟨rfl, rfl⟩
end
def directs (o : Oper) : List Nat := (o.after.toList.filter fun e => Region.binds .any e).map (·.on)
/-- the check of a region: selects none, no slot written twice, who looks at a slot comes behind; 'anc j': who has come up ahead of j -/
def parB (l : List Oper) (anc : List (List Nat)) : Bool :=
 let n := l.length
 (List.range n).all fun j => match l[j]? with
   | none => false
   | some o =>
     (match o.op with | .select _ _ => false | _ => true) &&
     (o.after.toList.all fun e => decide (e.on < j)) &&
     ((anc.getD j []).all fun i => (directs o).contains i || (directs o).any fun k => (anc.getD k []).contains i) &&
     ((List.range n).all fun i => i == j || match l[i]? with
       | none => false
       | some x => match x.dst with
         | none => true
         | some d => o.dst != some d && (!(o.looksAt l.toArray).contains d || (decide (i < j) && (anc.getD j []).contains i)))
section
variable {P : Program} {Q : Exit → Act → World → Prop}
def wpPar (P : Program) (ops : Array Oper) (J : (Nat → Bool) → (Nat → Value) → World → Prop) (anc : List (List Nat)) (E : Act → Prop) (vs : Nat → Value) : List Oper → Nat → Act → Prop
 | [], _, a => E a
 | o :: rest, j, a =>
   (∀ S w, S j = false → (∀ i ∈ anc.getD j [], S i = true) → (∀ k, k < ops.size → j ∈ anc.getD k [] → S k = false) → J S vs w → if Region.wanted o (yielded ops a.tmps) then par P o a w (fun u w' => J (upn S j true) (upn vs j u) w') else J (upn S j true) (upn vs j undef) w) ∧
   wpPar P ops J anc E vs rest (j + 1) (a.put o.dst (vs j))
theorem wpPar_nil {ops : Array Oper} {J : (Nat → Bool) → (Nat → Value) → World → Prop} {anc : List (List Nat)} {E : Act → Prop} {vs : Nat → Value} {j : Nat} {a : Act} (h : E a) : wpPar P ops J anc E vs [] j a := h
/-- one operation -/
theorem wpPar_step {ops : Array Oper} {J : (Nat → Bool) → (Nat → Value) → World → Prop} {anc : List (List Nat)} {E : Act → Prop} {vs : Nat → Value} {o : Oper} {rest : List Oper} {j : Nat} {a : Act}
   (h : ∀ S w, S j = false → (∀ i ∈ anc.getD j [], S i = true) → (∀ k, k < ops.size → j ∈ anc.getD k [] → S k = false) → J S vs w → ∀ R : Value → World → Prop, (∀ u w', J (upn S j true) (upn vs j u) w' → R u w') → if Region.wanted o (yielded ops a.tmps) then par P o a w R else R undef w)
   (hr : ∀ K : Act → Prop, (∀ b, wpPar P ops J anc E vs rest (j + 1) b → K b) → K (a.put o.dst (vs j))) : wpPar P ops J anc E vs (o :: rest) j a :=
 ⟨fun S w h1 h2 h3 h4 => h S w h1 h2 h3 h4 _ (fun _ _ h => h), hr _ (fun _ h => h)⟩
/-- one operation that nothing guards -/
theorem wpPar_step0 {ops : Array Oper} {J : (Nat → Bool) → (Nat → Value) → World → Prop} {anc : List (List Nat)} {E : Act → Prop} {vs : Nat → Value} {o : Oper} {rest : List Oper} {j : Nat} {a : Act} (hg : o.guard = none)
   (h : ∀ S w, S j = false → (∀ i ∈ anc.getD j [], S i = true) → (∀ k, k < ops.size → j ∈ anc.getD k [] → S k = false) → J S vs w → ∀ R : Value → World → Prop, (∀ u w', J (upn S j true) (upn vs j u) w' → R u w') → par P o a w R)
   (hr : ∀ K : Act → Prop, (∀ b, wpPar P ops J anc E vs rest (j + 1) b → K b) → K (a.put o.dst (vs j))) : wpPar P ops J anc E vs (o :: rest) j a :=
 wpPar_step (fun S w h1 h2 h3 h4 R hR => by
   have hw : Region.wanted o (yielded ops a.tmps) = true := by simp [Region.wanted, hg]
   rw [if_pos hw]
   exact h S w h1 h2 h3 h4 R hR) hr
theorem wpPar_get {ops : Array Oper} {J : (Nat → Bool) → (Nat → Value) → World → Prop} {anc : List (List Nat)} {E : Act → Prop} {vs : Nat → Value} : ∀ (l : List Oper) (i : Nat) (a : Act) (j : Nat) (o : Oper), wpPar P ops J anc E vs l i a → l[j]? = some o →
   ∀ S w, S (i + j) = false → (∀ k ∈ anc.getD (i + j) [], S k = true) → (∀ k, k < ops.size → i + j ∈ anc.getD k [] → S k = false) → J S vs w → if Region.wanted o (yielded ops (layP l i (fun k => decide (k < i + j)) vs a).tmps) then par P o (layP l i (fun k => decide (k < i + j)) vs a) w (fun u w' => J (upn S (i + j) true) (upn vs (i + j) u) w') else J (upn S (i + j) true) (upn vs (i + j) undef) w
 | [], _, _, _, _, _, h => by simp at h
 | x :: l, i, a, 0, o, h, hj => by
   simp at hj
   subst hj
   have e : layP (x :: l) i (fun k => decide (k < i + 0)) vs a = a := by
     have : ∀ (l : List Oper) (m : Nat), i ≤ m → layP l m (fun k => decide (k < i + 0)) vs a = a := by
       intro l
       induction l with
       | nil => intro m _; rfl
       | cons y l ih =>
         intro m hm
         unfold layP
         rw [if_neg (by simp; omega)]
         exact ih (m + 1) (by omega)
     exact this _ _ (Nat.le_refl _)
   rw [e]
   exact h.1
 | x :: l, i, a, j + 1, o, h, hj => by
   have ih := wpPar_get l (i + 1) _ j o h.2 (by simpa using hj)
   have e2 : i + 1 + j = i + (j + 1) := by omega
   rw [e2] at ih
   unfold layP
   rw [if_pos (by simp)]
   exact ih
theorem wpPar_end {ops : Array Oper} {J : (Nat → Bool) → (Nat → Value) → World → Prop} {anc : List (List Nat)} {E : Act → Prop} {vs : Nat → Value} : ∀ (l : List Oper) (i : Nat) (a : Act) (S : Nat → Bool), wpPar P ops J anc E vs l i a → (∀ k, k < l.length → S (i + k) = true) → E (layP l i S vs a)
 | [], _, _, _, h, _ => h
 | x :: l, i, a, S, h, hS => by
   unfold layP
   rw [if_pos (by simpa using hS 0 (by simp))]
   exact wpPar_end l (i + 1) _ S h.2 (fun k hk => by have := hS (k + 1) (by simpa using hk); rwa [Nat.add_assoc, Nat.add_comm 1 k])
theorem layP_none : ∀ (l : List Oper) (i : Nat) (S : Nat → Bool) (vs : Nat → Value) (a : Act), (∀ k, k < l.length → S (i + k) = false) → layP l i S vs a = a
 | [], _, _, _, _, _ => rfl
 | x :: l, i, S, vs, a, h => by
   unfold layP
   rw [if_neg (by simpa using h 0 (by simp))]
   exact layP_none l (i + 1) S vs a (fun k hk => by have := h (k + 1) (by simpa using hk); rwa [Nat.add_assoc, Nat.add_comm 1 k])
theorem wp_region_par {id : Nat} {a : Act} {w : World} {l : List Oper} (J : (Nat → Bool) → (Nat → Value) → World → Prop) (anc : List (List Nat)) (hm : P.follows .mixedOrders = true) (hB : parB l anc = true)
   (h0 : ∀ vs, J (fun i => decide (l.length ≤ i)) vs w.drew)
   (h : ∀ vs, wpPar P l.toArray J anc (fun a' => ∀ w', J (fun _ => true) vs w' → Q .normal a' w') vs l 0 a) : (Code.region id l.toArray true).wp P Q a w := by
 have hB' : ∀ (j : Nat) (o : Oper), l[j]? = some o → (∀ cs b, o.op ≠ .select cs b) ∧ (∀ e ∈ o.after, e.on < j) ∧ (∀ i ∈ anc.getD j [], i ∈ directs o ∨ ∃ k ∈ directs o, i ∈ anc.getD k []) ∧ (∀ i x, l[i]? = some x → i ≠ j → ∀ d, x.dst = some d → o.dst ≠ some d ∧ (d ∈ o.looksAt l.toArray → i < j ∧ i ∈ anc.getD j [])) := by
   intro j o ho
   have hj : j < l.length := (List.getElem?_eq_some_iff.1 ho).1
   simp only [parB, List.all_eq_true, List.mem_range] at hB
   have h1 := hB j hj
   rw [ho] at h1
   simp only [Bool.and_eq_true, List.all_eq_true, List.mem_range, Bool.or_eq_true, decide_eq_true_eq, List.contains_iff_mem, List.any_eq_true, beq_iff_eq] at h1
   obtain ⟨⟨⟨h2, h3⟩, h4⟩, h5⟩ := h1
   refine ⟨fun cs b e => by rw [e] at h2; simp at h2, fun e he => h3 e (by simpa using he), h4, fun i x hx hne d hd => ?_⟩
   have h6 := h5 i (List.getElem?_eq_some_iff.1 hx).1
   rcases h6 with h6 | h6
   · exact absurd h6 hne
   · rw [hx] at h6
     simp only [hd, Bool.and_eq_true, Bool.or_eq_true, bne_iff_ne, ne_eq, Bool.not_eq_true', List.contains_iff_mem, decide_eq_true_eq] at h6
     refine ⟨h6.1, fun hm => ?_⟩
     rcases h6.2 with h7 | h7
     · exact absurd hm (by simpa using h7)
     · exact h7
 have hsz : ∀ (listed : Array Bool) (j : Nat), (fun i => (listed.setIfInBounds j true).getD i true) = upn (fun i => listed.getD i true) j true := by
   intro listed j
   funext i
   simp only [upn, Array.getD_eq_getD_getElem?, Array.getElem?_setIfInBounds]
   by_cases hij : i = j
   · subst hij
     simp
     split <;> rfl
   · simp [hij, Ne.symm hij]
 refine wp_region_inv (fun listed a' w' => ∃ vs, a' = layP l 0 (fun i => listed.getD i true) vs a ∧ J (fun i => listed.getD i true) vs w' ∧ (∀ j, j < l.length → listed.getD j true = true → ∀ i ∈ anc.getD j [], listed.getD i true = true) ∧ listed.size = l.length) hm (fun j o ho => (hB' j o (by simpa using ho)).2.1) ?_ ?_ ?_
 · have e : (fun i => (Array.replicate l.toArray.size false).getD i true) = fun i => decide (l.length ≤ i) := by
     funext i
     simp only [Array.getD_eq_getD_getElem?, Array.getElem?_replicate]
     by_cases hi : i < l.length
     · simp [hi]; 
     · simp [hi]; omega
   refine ⟨fun _ => undef, ?_, ?_, fun j hj hl => ?_, by simp⟩
   · rw [e, layP_none]
     intro k hk
     simp only [Nat.zero_add]
     simpa using hk
   · rw [e]; exact h0 _
   · have h1 : (Array.replicate l.toArray.size false).getD j true = decide (l.length ≤ j) := congrFun e j
     rw [h1] at hl
     simp at hl
     omega
 · rintro listed a' w' j o ⟨vs, rfl, hJ, hcl, hlz⟩ hj ho hafter
   have ho' : l[j]? = some o := by simpa using ho
   obtain ⟨hs1, hs2, hs3, hs4⟩ := hB' j o ho'
   have hjl : j < l.length := (List.getElem?_eq_some_iff.1 ho').1
   have hdir : ∀ k ∈ directs o, k < j ∧ listed.getD k true = true := by
     intro k hk
     simp only [directs, List.mem_map, List.mem_filter] at hk
     obtain ⟨e, ⟨he1, he2⟩, rfl⟩ := hk
     have h1 := hafter e (by simpa using he1) he2
     refine ⟨hs2 e (by simpa using he1), ?_⟩
     rw [Array.getD_eq_getD_getElem?] at h1 ⊢
     cases hq : listed[e.on]? with
     | none => rfl
     | some b => rw [hq] at h1; simpa using h1
   have hanc : ∀ i ∈ anc.getD j [], listed.getD i true = true := by
     intro i hi
     rcases hs3 i hi with h1 | ⟨k, hk, h1⟩
     · exact (hdir i h1).2
     · exact hcl k (by have := (hdir k hk).1; omega) (hdir k hk).2 i h1
   have hg := wpPar_get l 0 a j o (h vs) ho' (fun i => listed.getD i true) w' (by simpa using hj) (by simpa using hanc) (fun k hk hm => by
     cases hq : listed.getD k true with
     | false => rfl
     | true =>
       have h1 := hcl k (by simpa using hk) hq j (by simpa using hm)
       rw [hj] at h1
       cases h1) hJ
   simp only [Nat.zero_add] at hg
   have hal : Alike o l.toArray (layP l 0 (fun i => listed.getD i true) vs a) (layP l 0 (fun k => decide (k < j)) vs a) := by
     refine alike_layP l 0 _ _ vs a a rfl (fun t _ => rfl) (fun k x hk => ?_)
     rw [Nat.zero_add]
     by_cases hkj : k = j
     · subst hkj
       left
       rw [hj]
       simp
     · by_cases hin : ∃ d, x.dst = some d ∧ d ∈ o.looksAt l.toArray
       · obtain ⟨d, hd, hdm⟩ := hin
         obtain ⟨h1, h2⟩ := (hs4 k x hk hkj d hd).2 hdm
         left
         rw [hanc k h2]
         simp [h1]
       · right
         exact fun d hd hdm => hin ⟨d, hd, hdm⟩
   have hw := wanted_alike hal
   have hx := exec_alike hs1 hal
   have hput : ∀ u w'', J (upn (fun i => listed.getD i true) j true) (upn vs j u) w'' → ∃ vs', (layP l 0 (fun i => listed.getD i true) vs a).put o.dst u = layP l 0 (fun i => (listed.setIfInBounds j true).getD i true) vs' a ∧ J (fun i => (listed.setIfInBounds j true).getD i true) vs' w'' ∧ (∀ m, m < l.length → (listed.setIfInBounds j true).getD m true = true → ∀ i ∈ anc.getD m [], (listed.setIfInBounds j true).getD i true = true) ∧ (listed.setIfInBounds j true).size = l.length := by
     intro u w'' hj'
     have hup : ∀ i, (listed.setIfInBounds j true).getD i true = upn (fun i => listed.getD i true) j true i := fun i => congrFun (hsz listed j) i
     refine ⟨upn vs j u, ?_, by rw [hsz]; exact hj', fun m hm hl i hi => ?_, by simpa using hlz⟩
     · rw [hsz]
       have := layP_more l 0 (fun i => listed.getD i true) vs a j o u ho' (by simpa using hj) (fun k k' x y hk hk' hne t ht ht2 => (hB' k' y hk').2.2.2 k x hk hne t ht |>.1 ht2)
       simpa using this
     · rw [hup] at hl ⊢
       simp only [upn] at hl ⊢
       split
       · rfl
       · by_cases hmj : m = j
         · subst hmj
           exact hanc i hi
         · rw [if_neg hmj] at hl
           exact hcl m hm hl i hi
   unfold wpOp
   simp only [ho]
   rw [hw]
   split
   · rename_i hwt
     rw [if_pos hwt] at hg
     exact .inl (wp_of_par hx hg hput)
   · rename_i hwt
     rw [if_neg hwt] at hg
     exact hput _ _ hg
 · rintro listed a' w' ⟨vs, rfl, hJ, _, hlz⟩ hall
   have e : (fun i => listed.getD i true) = fun _ => true := by
     funext i
     by_cases hi : i < l.length
     · have h1 := hall i (by simpa using hi)
       rw [Array.getD_eq_getD_getElem?] at h1 ⊢
       cases hq : listed[i]? with
       | none => rfl
       | some b => rw [hq] at h1; simpa using h1
     · simp only [Array.getD_eq_getD_getElem?]
       rw [Array.getElem?_eq_none (by omega)]
       rfl
   rw [e] at hJ ⊢
   exact wpPar_end l 0 a _ (h vs) (fun _ _ => rfl) w' hJ
theorem par_append {o : Oper} {a : Act} {w : World} {R : Value → World → Prop} (s x : Operand) (t : TypeId) (hop : o.op = Op.call { callee := Callee.builtin Builtin.append, args := #[s, x], argTypes := #[t, t] })
   (v vx : Value) (hs : a.eval s = v) (hx : a.eval x = vx) {u : Value} {w' : World} (hrun : (Builtin.append_ #[t, t] o.type #[v, vx]).run P w = .ok u w') (hR : R u w') : par P o a w R := by
 unfold par
 simp [execOp, hop, resolve, invoke, builtin, hs, hx, hrun, Result.andThen, parUpon]
 exact hR
theorem par_call {o : Oper} {a : Act} {w : World} {R : Value → World → Prop} (f : Nat) (x : Operand) (t : TypeId) (hop : o.op = Op.call { callee := Callee.value (Operand.func f), args := #[x], argTypes := #[t] })
   (F : Func) (hF : P.funcs[f]? = some F) (hF1 : F.name ≠ "runtime.NumGoroutine") (hF2 : F.body ≠ none) (v : Value) (hx : a.eval x = v) (hc : Calls P f #[v] w fun e w' => ∃ u, e = .returned u ∧ R u w') : par P o a w R := by
 obtain ⟨fv, hf⟩ : ∃ fv, a.eval (Operand.func f) = fv := ⟨_, rfl⟩
 have hf2 := hf
 simp only [Act.eval] at hf2
 subst hf2
 unfold par
 simp [execOp, hop, resolve, invoke, hx, hf, Deferred.ofValue, callFunc, hF, hF1, hF2, Result.andThen, parUpon]
 exact hc
end
end Go.Proofs.Ytdpokdcendgfeaa
namespace Go.Proofs.Ytdpokdcendgfeaa
open Go.RowKit
/-- what is known between the operations of a region: memory has only grown, and what each finished one told holds -/
structure JG (W : World) (K : Nat → Value → World → Prop) (S : Nat → Bool) (vs : Nat → Value) (w : World) : Prop where
 b : Below W.heap.size W w
 k : ∀ i, S i = true → K i (vs i) w
/-- a law that stays where memory grows -/
def StK (K : Nat → Value → World → Prop) : Prop := ∀ i v w w', K i v w → Below w.heap.size w w' → K i v w'
theorem JG.step {W w w' : World} {K : Nat → Value → World → Prop} {S : Nat → Bool} {vs : Nat → Value} {j : Nat} {u : Value} (h : JG W K S vs w) (hK : StK K) (hb : Below w.heap.size w w') (hu : K j u w') : JG W K (upn S j true) (upn vs j u) w' := by
 refine ⟨h.b.trans (hb.mono h.b.size), fun i hi => ?_⟩
 by_cases e : i = j
 · subst e
   rw [upn_eq]
   exact hu
 · rw [upn_ne e] at hi ⊢
   exact hK i _ _ _ (h.k i hi) hb
theorem JG.start {W : World} {K : Nat → Value → World → Prop} {n : Nat} (vs : Nat → Value) (h : ∀ i v w, n ≤ i → K i v w) : JG W K (fun i => decide (n ≤ i)) vs W.drew :=
 ⟨(Below.refl _ W).drew, fun i hi => h i _ _ (by simpa using hi)⟩
theorem par_callsF {P : Program} {o : Oper} {a : Act} {w : World} {R : Value → World → Prop} (f : Nat) (xs : Array Operand) (ts : Array TypeId) (hop : o.op = Op.call { callee := Callee.value (Operand.func f), args := xs, argTypes := ts })
   (F : Func) (hF : P.funcs[f]? = some F) (hF1 : F.name ≠ "runtime.NumGoroutine") (hF2 : F.body ≠ none) (vs : Array Value) (hx : xs.map a.eval = vs) (hc : Calls P f vs w fun e w' => ∃ u, e = .returned u ∧ R u w') : par P o a w R := by
 obtain ⟨fv, hf⟩ : ∃ fv, a.eval (Operand.func f) = fv := ⟨_, rfl⟩
 have hf2 := hf
 simp only [Act.eval] at hf2
 subst hf2
 unfold par
 simp [execOp, hop, Go.resolve, invoke, hx, hf, Deferred.ofValue, callFunc, hF, hF1, hF2, Result.andThen, parUpon]
 exact hc
/-- lists of rows that were just laid in a block of their own -/
theorem ksM_new {w' : World} {g c n : Nat} {rs : List (Option Addr × Nat)} {ks : List (List Ac)} {rest : List Value} (he : EvMem w' rs ks) (hg : Blk w' g 26 (slv rs ks ++ rest).toArray) (hc : n ≤ c) (hn : ks.length = n) : KsM w' (.slice (some ⟨g, 0, none⟩) n c) ks := by
 subst hn
 refine ⟨some ⟨g, 0, none⟩, c, rs, rfl, fun _ => ⟨_, rfl, hg.lt, fun j v hj => ?_⟩, he, hc⟩
 have hadd : (⟨g, 0, none⟩ : Addr).add j = ⟨g, j, none⟩ := by unfold Addr.add; split <;> simp_all
 rw [hadd, hg.cell, List.getElem?_toArray, List.getElem?_append_left (List.getElem?_eq_some_iff.1 hj).1]
 exact hj
theorem run_append_zero {w : World} (ty : TypeId) (i : TypeInfo) (hi : Try.prog.info? 26 = some i) (g n : Nat) (oa : Option Addr) (rc : Nat) :
   (Builtin.append_ #[25, 25] ty #[.slice (some ⟨g, 0, none⟩) n n, .slice oa 0 rc]).run Try.prog w = .ok (.slice (some ⟨g, 0, none⟩) n n) w := by
 cases oa <;> simp [Builtin.append_, run_underlying Try.underlying25, sizeOf, typeInfo, hi, Builtin.lenOf, Builtin.firstCells, storeCells, loadCells, loadCellsFrom]
/-- an append behind a full row of two: memory only grows -/
theorem app_full {w : World} (ty : TypeId) {g : Nat} {ra : List (Option Addr × Nat)} {ka kb : List (List Ac)} {v : Value} (hg : Blk w g 26 (slv ra ka).toArray) (he : EvMem w ra ka) (hk : KsM w v kb) (hka : 0 < ka.length) (hl : ka.length + kb.length ≤ 1000) :
   ∃ u w', (Builtin.append_ #[25, 25] ty #[.slice (some ⟨g, 0, none⟩) ka.length ka.length, v]).run Try.prog w = .ok u w' ∧ Below w.heap.size w w' ∧ KsM w' u (ka ++ kb) := by
 obtain ⟨i3, hi3, hz0, hz1, hz2⟩ := info_parts3 infS
 obtain ⟨oa, c, rb, rfl, h1, h2, h3⟩ := hk
 rcases Nat.eq_zero_or_pos kb.length with h0 | h0
 · have hkb := List.eq_nil_of_length_eq_zero h0
   subst hkb
   refine ⟨_, _, run_append_zero ty i3 hi3 g ka.length oa c, Below.refl _ _, ?_⟩
   rw [List.append_nil]
   exact ksM_new (rest := []) he (by rw [List.append_nil]; exact hg) (Nat.le_refl _) rfl
 · obtain ⟨ad, rfl, hb, hx⟩ := h1 h0
   have hla := slv_length ra ka he.1
   have hlb := slv_length rb kb h2.1
   have hrun := run_append_grow (P := Try.prog) (w := w) 25 ty 26 i3 _ Try.underlying25 hi3 hz0 ⟨g, 0, none⟩ ka.length ka.length (slv ra ka) (by rw [hla, hz1]; omega) (fun j v hj => by
     have hadd : (⟨g, 0, none⟩ : Addr).add j = ⟨g, j, none⟩ := by unfold Addr.add; split <;> simp_all
     rw [hadd, hg.cell]
     simpa using hj) ad kb.length c (slv rb kb) (by rw [hlb, hz1]; omega) (fun j v hj => hx j v hj) (by omega) (by omega) (by
       rw [hz2]
       have h9 := nextslicecap_le (need := ka.length + kb.length) (old := ka.length) (by omega)
       omega)
   refine ⟨_, _, hrun, ((Below.refl _ w).drew).alloc (Nat.le_refl _) _, ?_⟩
   have hnb := Blk.new w.drew 26 ((slv ra ka).toArray ++ (slv rb kb).toArray ++ Builtin.zeroCells (Value.cells (.slice none 0 0)) (grownCap w (ka.length + kb.length) ka.length 26 - (ka.length + kb.length)))
   have hbel : Below w.heap.size w (w.drew.alloc (.cells ((slv ra ka).toArray ++ (slv rb kb).toArray ++ Builtin.zeroCells (Value.cells (.slice none 0 0)) (grownCap w (ka.length + kb.length) ka.length 26 - (ka.length + kb.length))) 26)) := ((Below.refl _ w).drew).alloc (Nat.le_refl _) _
   have heab : EvMem w (ra ++ rb) (ka ++ kb) := by
     refine ⟨by rw [List.length_append, List.length_append, he.1, h2.1], fun i oa c l e1 e2 => ?_⟩
     by_cases hi : i < ka.length
     · rw [List.getElem?_append_left (by rw [he.1]; exact hi)] at e1
       rw [List.getElem?_append_left hi] at e2
       exact he.2 i oa c l e1 e2
     · rw [List.getElem?_append_right (by rw [he.1]; omega), he.1] at e1
       rw [List.getElem?_append_right (by omega)] at e2
       exact h2.2 _ oa c l e1 e2
   have hsl : ∀ (ra : List (Option Addr × Nat)) (ka : List (List Ac)), ra.length = ka.length → slv (ra ++ rb) (ka ++ kb) = slv ra ka ++ slv rb kb := fun ra => by
     induction ra with
     | nil =>
       intro ka h
       cases ka with
       | nil => rfl
       | cons => simp at h
     | cons r ra ih =>
       intro ka h
       cases ka with
       | nil => simp at h
       | cons k ka =>
         obtain ⟨r1, r2⟩ := r
         simp only [List.cons_append, slv]
         rw [ih ka (by simpa using h)]
   have hge := grownCap_ge w (ka.length + kb.length) ka.length 26
   refine ksM_new (rs := ra ++ rb) (rest := (Builtin.zeroCells (Value.cells (.slice none 0 0)) (grownCap w (ka.length + kb.length) ka.length 26 - (ka.length + kb.length))).toList) (heab.below hbel) ?_ hge (by rw [List.length_append])
   rw [hsl ra ka he.1]
   have e9 : ((slv ra ka ++ slv rb kb) ++ (Builtin.zeroCells (Value.cells (.slice none 0 0)) (grownCap w (ka.length + kb.length) ka.length 26 - (ka.length + kb.length))).toList).toArray = (slv ra ka).toArray ++ (slv rb kb).toArray ++ Builtin.zeroCells (Value.cells (.slice none 0 0)) (grownCap w (ka.length + kb.length) ka.length 26 - (ka.length + kb.length)) := by
     apply Array.ext'
     simp
   rw [e9]
   exact hnb
end Go.Proofs.Ytdpokdcendgfeaa
