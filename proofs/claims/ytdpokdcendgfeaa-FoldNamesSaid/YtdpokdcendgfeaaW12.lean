/- Several texts in one: The walk of fold.left. The walk of fold.events. Conditions: those of each. -/
import Derived.Test.YtdpokdcendgfeaaW11
set_option linter.unusedSimpArgs false
set_option linter.unusedVariables false
set_option maxHeartbeats 80000000
namespace Go.Proofs.Ytdpokdcendgfeaa
open Go.RowKit
def rowL (l : List Ac) (i : Nat) : Ac := l[i]?.getD ⟨0, 0, 0, 0, 0, 0⟩
def spL (l : List Ac) (i : Nat) : List (Nat × Nat) := (kidsS l (rowL l i).n.toNat (i + 1)).getD []
def endL (l : List Ac) (i : Nat) : Nat := (endS l i 1).getD 0
def hsL (l : List Ac) (sp : List (Nat × Nat)) : List Ac := sp.map fun r => rowL l r.1
def inbV (l : List Ac) (i : Nat) : Bool := decide (0 < i) && decide ((rowL l ((parV l)[i]?.getD 0).toNat).k = 1)
/-- what is left at a row -/
def lookA (l : List Ac) (i : Nat) : Option Fd :=
 if 16 < (rowL l i).k then (exprV (rowL l i).k ((spL l i).map (sub l)) (hsL l (spL l i))).map fun r => ⟨r.1, i, endL l i, r.2, 1, 1⟩
 else match doingV l i (endL l i) (rowL l i) ((spL l i).map (sub l)) (hsL l (spL l i)) (inbV l i) with
   | some f => some f
   | none => if i = 0 ∧ (rowL l 0).n = 0 then some ⟨19, 0, 1, none, 0, 0⟩ else none
/-- the first thing that is left in an event's rows -/
def leftF (l : List Ac) : Option Fd := (List.range l.length).findSome? (lookA l)
/-- what fold.left needs of a row -/
structure LkOk (l : List Ac) (i : Nat) : Prop where
 k : kidsS l (rowL l i).n.toNat (i + 1) = some (spL l i)
 e : endS l i 1 = some (endL l i)
 x : 16 < (rowL l i).k → EOk l i (rowL l i) (spL l i) (hsL l (spL l i))
 d : ¬ 16 < (rowL l i).k → DOk l i (rowL l i) ((spL l i).map (sub l)) (hsL l (spL l i))
 up : 0 < i → ∃ p : Nat, (parV l)[i]? = some (p : Int) ∧ p < l.length
theorem rowL_get {l : List Ac} {i : Nat} (h : i < l.length) : l[i]? = some (rowL l i) := by
 unfold rowL
 rw [List.getElem?_eq_getElem h]
 rfl
theorem find_first {α : Type} {f : Nat → Option α} {n j : Nat} {x : α} (hj : j < n) (h : ∀ i, i < j → f i = none) (hx : f j = some x) : (List.range n).findSome? f = some x := by
 obtain ⟨m, rfl⟩ : ∃ m, n = j + (m + 1) := ⟨n - j - 1, by omega⟩
 rw [List.range_add, List.findSome?_append]
 have h1 : (List.range j).findSome? f = none := by
   rw [List.findSome?_eq_none_iff]
   intro i hi
   exact h i (List.mem_range.1 hi)
 rw [h1, Option.none_or, List.range_succ_eq_map, List.map_cons, List.findSome?_cons]
 simp only [Nat.add_zero, hx]
theorem find_none {α : Type} {f : Nat → Option α} {n : Nat} (h : ∀ i, i < n → f i = none) : (List.range n).findSome? f = none := by
 rw [List.findSome?_eq_none_iff]
 intro i hi
 exact h i (List.mem_range.1 hi)
theorem rin_form {w : World} {v : Value} {o : Option (List Ac)} (h : Rin w v o) : ∃ oa n c, v = .slice oa n c := by
 cases o with
 | none => exact ⟨none, 0, 0, h⟩
 | some l => obtain ⟨oa, c, e⟩ := h.slice; exact ⟨oa, _, c, e⟩
theorem rin_keep1 {w w' : World} {v : Value} {o : Option (List Ac)} {g : Nat} {t : TypeId} {a0 a1 a2 a4 a5 : Value} {oa : Option Addr} {na ca : Nat} (h : Rin w v o) (h1 : Blk w g t #[a0, a1, a2, .slice oa na ca, a4, a5]) (ho : Only (fun k => k = g) w w') : Rin w' v o := by
 cases o with
 | none => exact h
 | some l => exact rin_keep h h1 h1 (ho.mono (fun k hk => .inl (.inl hk)))
theorem six_only {W : World} {g : Nat} {v0 v1 v2 v3 v4 v5 : Value} : Only (fun k => k = g) W ((((((W.setCell ⟨g, 0, none⟩ v0).setCell ⟨g, 1, none⟩ v1).setCell ⟨g, 2, none⟩ v2).setCell ⟨g, 3, none⟩ v3).setCell ⟨g, 4, none⟩ v4).setCell ⟨g, 5, none⟩ v5) :=
 oset (p := ⟨g, 5, none⟩) (oset (p := ⟨g, 4, none⟩) (oset (p := ⟨g, 3, none⟩) (oset (p := ⟨g, 2, none⟩) (oset (p := ⟨g, 1, none⟩) (oset (p := ⟨g, 0, none⟩) (Only.refl _ W) rfl) rfl) rfl) rfl) rfl) rfl
theorem rin_drewN {w : World} {v : Value} {o : Option (List Ac)} (h : Rin w v o) (m : Nat) : Rin (w.drewN m) v o := h.below (below_drewN (Below.refl _ w) m)
set_option maxRecDepth 100000 in
theorem left_i (w : World) (oa : Option Addr) (c : Nat) (l : List Ac) (h : Src w oa l.length (acs l)) (hc : l.length ≤ c) (hcm : c ≤ maxLen) (hs : Small l) (hl : l.length ≤ 131072) (hok : ∀ i, i < l.length → LkOk l i) :
   Calls Try.prog 52 #[.slice oa l.length c] w fun en w' => FndV w' en (leftF l) ∧ Below w.heap.size w w' := by
 have hln := hs.1
 have HB0 := hide ((Below.refl w.heap.size w).alloc (Nat.le_refl _) (.cells #[.int .i64 0, .int .i64 0, .int .i64 0, .slice none 0 0, .int .i64 0, .int .i64 0] 90))
 have HR0 := hide (Blk.new w 90 #[.int .i64 0, .int .i64 0, .int .i64 0, .slice none 0 0, .int .i64 0, .int .i64 0])
 have HRES := hide (show Try.f52.results = #[.cell 2 90, .tmp 3] by rfl)
 have HOK := hide hok
 have HSM := hide hs
 have HL := hide hl
 obtain ⟨V, hV⟩ : ∃ V, leftF l = V := ⟨_, rfl⟩
 rw [hV]
 have HV := hide hV
 obtain ⟨N, hN⟩ : ∃ n, l.length = n := ⟨_, rfl⟩
 have HSRC := hide h
 rw [hN]
 have HN := hide hN
 have hNl : N ≤ 131072 := by omega
 have hcN := hc
 rw [hN] at hcN
 have HCM := hide hcm
 clear h hok hs hl hV hN hc hcm
 by_cases hn0 : N = 0
 · have hnb : ((N : Int) == 0) = true := by simp [hn0]
   have HE := hide (show V = none by rw [← HV.out]; unfold leftF; rw [HN.out, hn0]; rfl)
   clear hn0
   go_enter Try.func52, Try.ntmps52
   go_upto_region 1 with fail
   go_step3
   go_step
   generalize w.alloc (.cells #[.int .i64 0, .int .i64 0, .int .i64 0, .slice none 0 0, .int .i64 0, .int .i64 0] 90) = W1 at HB0 HR0 ⊢
   obtain ⟨gr, hgr⟩ : ∃ g, w.heap.size = g := ⟨_, rfl⟩
   rw [hgr] at HB0 HR0
   simp only [hgr]
   have HG := hide hgr
   clear hgr
   obtain ⟨r0, r1, r2, r3, r4, r5, hgrl⟩ := blk6x HR0.out
   have zr0 := HR0.out.frozen 0
   have zr1 := HR0.out.frozen 1
   have zr2 := HR0.out.frozen 2
   have zr3 := HR0.out.frozen 3
   have zr4 := HR0.out.frozen 4
   have zr5 := HR0.out.frozen 5
   go_wp2_with fail
   try rw [Exit.noGoto_ret]
   refine bodyPost_ret (v := .tuple #[.agg #[.int .i64 0, .int .i64 0, .int .i64 0, .slice none 0 0, .int .i64 0, .int .i64 0], .bool false]) ?_ rfl ?_
   · simp only [results, HRES.out]
     go_simp
   have hb9 : Below gr w ((((((W1.setCell ⟨gr, 0, none⟩ (.int .i64 0)).setCell ⟨gr, 1, none⟩ (.int .i64 0)).setCell ⟨gr, 2, none⟩ (.int .i64 0)).setCell ⟨gr, 3, none⟩ (.slice none 0 0)).setCell ⟨gr, 4, none⟩ (.int .i64 0)).setCell ⟨gr, 5, none⟩ (.int .i64 0)) := bset (bset (bset (bset (bset (bset HB0.out (by exact Nat.le_refl _)) (by exact Nat.le_refl _)) (by exact Nat.le_refl _)) (by exact Nat.le_refl _)) (by exact Nat.le_refl _)) (by exact Nat.le_refl _)
   exact ⟨by rw [HE.out]; exact ⟨_, _, _, _, _, _, _, _, rfl⟩, by rw [HG.out]; exact hb9⟩
 · have hnb : ((N : Int) == 0) = false := by simp [hn0]
   obtain ⟨ad, rfl, hadb, _⟩ := HSRC.out (by have := HN.out; omega)
   have HRO := hide (Ro.mk HSRC.out (by have := HN.out; omega) HCM.out)
   have hpa := parents_i (w.alloc (.cells #[.int .i64 0, .int .i64 0, .int .i64 0, .slice none 0 0, .int .i64 0, .int .i64 0] 90)) ad c l (HRO.out.below HB0.out) HSM.out
   rw [HN.out] at hpa
   have HPA := hide hpa
   clear hpa
   go_enter Try.func52, Try.ntmps52
   go_upto_region 1 with fail
   go_step3
   go_step
   generalize w.alloc (.cells #[.int .i64 0, .int .i64 0, .int .i64 0, .slice none 0 0, .int .i64 0, .int .i64 0] 90) = W1 at HB0 HR0 HPA ⊢
   obtain ⟨gr, hgr⟩ : ∃ g, w.heap.size = g := ⟨_, rfl⟩
   rw [hgr] at HB0 HR0
   simp only [hgr]
   have HG := hide hgr
   clear hgr
   go_wp2_with (go_at_call 74; with_reducible refine HPA.out.mono ?_; rintro en W2 ⟨gp, rfl, hgp, hbp, hb2⟩; have HBP := hide hbp; have HGP := hide hgp; have HB2 := hide hb2; clear hgp hbp hb2)
   go_step3
   go_wp2_with fail
   have HGR := hide HR0.out.lt
   go_loopw [19] (fun t19 W => ∃ j : Nat, t19 = .int .i64 (j : Int) ∧ j ≤ N ∧ Hid (∀ i, i < j → lookA l i = none) ∧ Below gr w W ∧ Blk W gr 90 #[.int .i64 0, .int .i64 0, .int .i64 0, .slice none 0 0, .int .i64 0, .int .i64 0] ∧ Blk W gp 3 (ints (parV l)).toArray) (fun t19 _ => N - (intOf t19).toNat)
   case atStart => exact ⟨0, rfl, Nat.zero_le _, hide (fun i hi => absurd hi (Nat.not_lt_zero _)), HB0.out.trans (HB2.out.mono (by have := HB0.out.size; have := HG.out; omega)), HR0.out.below HB2.out HR0.out.lt, HBP.out⟩
   case round =>
     obtain ⟨j, rfl, hj, HF, hb, hr, hp⟩ := hrel
     have HB := hide hb
     have HR := hide hr
     have HP := hide hp
     have hq := IntWalk.i64_in ((j : Int) + 1) (by omega)
     clear hb hr hp
     by_cases hjn : j < N
     · have hjI : (j : Int) < (N : Int) := by omega
       have hj0 : (0 : Int) ≤ (j : Int) := by omega
       have HJN := hide hjn
       have hlk := HOK.out j (by have := HN.out; omega)
       have hx := rowL_get (show j < l.length by have := HN.out; omega)
       have hbw : Below w.heap.size w wr := by rw [HG.out]; exact HB.out
       have HROW := hide (HRO.out.below hbw)
       obtain ⟨ad9, e9, hab, q0, q1, q2, q3, q4, q5⟩ := acs_row HROW.out.s hx
       injection e9 with e9
       subst e9
       have HLK := hide hlk
       obtain ⟨X, hX⟩ : ∃ X, lookA l j = X := ⟨_, rfl⟩
       have HX := hide hX
       have HXR := hide hx
       have HFST := hide (fun (f : Fd) (h : X = some f) => show V = some f by rw [← HV.out]; unfold leftF; rw [HN.out]; exact find_first HJN.out (fun i hi => HF.out i hi) (by rw [HX.out]; exact h))
       have HNXT := hide (fun (h : X = none) => show ∀ i, i < j + 1 → lookA l i = none from fun i hi => by rcases Nat.lt_or_ge i j with h1 | h1; exact HF.out i h1; rw [show i = j by omega, HX.out]; exact h)
       have HEN := hide (fun (W : World) (hb : Below wr.heap.size wr W) => end_i W (some ad) c l j (endL l j) (HROW.out.s.below hb) HSM.out HLK.out.e (by have := HN.out; have := HJN.out; omega))
       rw [HN.out] at HEN
       clear hlk hX hbw hjn hx
       by_cases hk : 16 < (rowL l j).k
       · have hkI : (16 : Int) < (rowL l j).k := hk
         have hex := expr_i wr ad c l j (rowL l j) (spL l j) (hsL l (spL l j)) HROW.out HSM.out HL.out HXR.out (HLK.out.x hk)
         rw [HN.out] at hex
         have HX2 := hide (show X = (exprV (rowL l j).k ((spL l j).map (sub l)) (hsL l (spL l j))).map (fun r => ⟨r.1, j, endL l j, r.2, 1, 1⟩) by rw [← HX.out]; unfold lookA; rw [if_pos hk])
         have HEX := hide hex
         clear hex hk
         cases hev : exprV (rowL l j).k ((spL l j).map (sub l)) (hsL l (spL l j)) with
         | none =>
           rw [hev] at HEX HX2
           go_wp2_with (go_at_call 75; with_reducible refine HEX.out.mono ?_; rintro en W3 ⟨hr3, hb3⟩; simp only [ResV] at hr3; subst hr3; have HB3 := hide hb3; clear hb3)
           go_roundw
           case rel => exact ⟨j + 1, by go_num, by have := HJN.out; omega, hide (HNXT.out HX2.out), HB.out.trans (HB3.out.mono (by have := HB.out.size; have := HG.out; omega)), HR.out.below HB3.out HR.out.lt, HP.out.below HB3.out HP.out.lt⟩
           case measure =>
             simp only [intOf]
             have := HJN.out
             omega
         | some r9 =>
           obtain ⟨n9, o9⟩ := r9
           rw [hev] at HEX HX2
           have HE := hide (HFST.out _ HX2.out)
           go_upto_region 10 with (go_at_call 75; with_reducible refine HEX.out.mono ?_; rintro en W3 ⟨hr3, hb3⟩; simp only [ResV] at hr3; obtain ⟨v3, e3, hr4⟩ := hr3; subst e3; obtain ⟨oa3, nn3, cc3, e4⟩ := rin_form hr4; subst e4; have HRN := hide hr4; have HB3 := hide hb3; clear hr4 hb3)
           have hen := HEN.out W3 HB3.out
           have HEN3 := hide hen
           clear hen
           have HB4 := hide (HB.out.trans (HB3.out.mono (by have := HB.out.size; have := HG.out; omega)))
           have HR4 := hide (HR.out.below HB3.out HR.out.lt)
           obtain ⟨r0, r1, r2, r3, r4, r5, hgrl⟩ := blk6x HR4.out
           have zr0 := HR4.out.frozen 0
           have zr1 := HR4.out.frozen 1
           have zr2 := HR4.out.frozen 2
           have zr3 := HR4.out.frozen 3
           have zr4 := HR4.out.frozen 4
           have zr5 := HR4.out.frozen 5
           go_wp2_with (go_at_call 76; with_reducible refine HEN3.out.mono ?_; rintro en w9 ⟨rfl, mm, rfl⟩)
           have hb4 := below_drewN HB4.out mm
           try rw [Exit.noGoto_ret]
           refine bodyPost_ret (v := .tuple #[.agg #[.int .i64 (n9 : Int), .int .i64 (j : Int), .int .i64 (endL l j : Int), .slice oa3 nn3 cc3, .int .i64 1, .int .i64 1], .bool true]) ?_ rfl ?_
           · simp only [results, HRES.out]
             go_simp
           have hb9 : Below gr w (((((((W3.drewN mm).setCell ⟨gr, 0, none⟩ (.int .i64 (n9 : Int))).setCell ⟨gr, 1, none⟩ (.int .i64 (j : Int))).setCell ⟨gr, 2, none⟩ (.int .i64 (endL l j : Int))).setCell ⟨gr, 3, none⟩ (.slice oa3 nn3 cc3)).setCell ⟨gr, 4, none⟩ (.int .i64 1)).setCell ⟨gr, 5, none⟩ (.int .i64 1)) := bset (bset (bset (bset (bset (bset hb4 (by exact Nat.le_refl _)) (by exact Nat.le_refl _)) (by exact Nat.le_refl _)) (by exact Nat.le_refl _)) (by exact Nat.le_refl _)) (by exact Nat.le_refl _)
           exact ⟨by rw [HE.out]; exact ⟨_, rfl, _, rfl, rin_keep1 (rin_drewN HRN.out mm) (HR4.out.drewN mm) six_only⟩, by rw [HG.out]; exact hb9⟩
       by_cases hz : j = 0
       · have hkI : ¬ (16 : Int) < (rowL l j).k := hk
         have hj1 : ¬ (0 : Int) < (j : Int) := by omega
         have hj2 : ((j : Int) == 0) = true := by simp [hz]
         have hinb : inbV l j = false := by simp [inbV, hz]
         have hdo := doing_i wr ad c l j (endL l j) (rowL l j) (inbV l j) (spL l j) (hsL l (spL l j)) HROW.out HSM.out HL.out HXR.out HLK.out.k HLK.out.e (HLK.out.d hk)
         rw [HN.out] at hdo
         have HX2 := hide (show X = (match doingV l j (endL l j) (rowL l j) ((spL l j).map (sub l)) (hsL l (spL l j)) (inbV l j) with | some f => some f | none => if j = 0 ∧ (rowL l 0).n = 0 then some ⟨19, 0, 1, none, 0, 0⟩ else none) by rw [← HX.out]; unfold lookA; rw [if_neg hk])
         obtain ⟨DV, hDV⟩ : ∃ D, doingV l j (endL l j) (rowL l j) ((spL l j).map (sub l)) (hsL l (spL l j)) (inbV l j) = D := ⟨_, rfl⟩
         rw [hDV] at hdo HX2
         rw [hinb] at hdo
         have HDO := hide hdo
         have HZ := hide hz
         clear hdo hDV hk hz hinb
         cases DV with
         | some f =>
           have HE := hide (HFST.out f (by rw [HX2.out]))
           go_upto_region 12 with (go_at_call 77; with_reducible refine HDO.out.mono ?_; rintro en W3 ⟨hr3, hb3⟩; simp only [FndV, FdV] at hr3; obtain ⟨v3, e3, u3, e4, hr4⟩ := hr3; subst e3; subst e4; obtain ⟨oa3, nn3, cc3, e4⟩ := rin_form hr4; subst e4; have HRN := hide hr4; have HB3 := hide hb3; clear hr4 hb3)
           have HB4 := hide (HB.out.trans ((HB3.out.alloc HB3.out.size (.cells #[.int .i64 (f.what : Int), .int .i64 (f.frm : Int), .int .i64 (f.to_ : Int), .slice oa3 nn3 cc3, .int .i64 f.parts, .int .i64 f.gone] 90)).mono (by have := HB.out.size; have := HG.out; omega)))
           have HR4 := hide ((HR.out.below HB3.out HR.out.lt).alloc (.cells #[.int .i64 (f.what : Int), .int .i64 (f.frm : Int), .int .i64 (f.to_ : Int), .slice oa3 nn3 cc3, .int .i64 f.parts, .int .i64 f.gone] 90))
           have HD4 := hide (Blk.new W3 90 #[.int .i64 (f.what : Int), .int .i64 (f.frm : Int), .int .i64 (f.to_ : Int), .slice oa3 nn3 cc3, .int .i64 f.parts, .int .i64 f.gone])
           have HP4 := hide ((HP.out.below HB3.out HP.out.lt).alloc (.cells #[.int .i64 (f.what : Int), .int .i64 (f.frm : Int), .int .i64 (f.to_ : Int), .slice oa3 nn3 cc3, .int .i64 f.parts, .int .i64 f.gone] 90))
           have HRN4 := hide (HRN.out.below ((Below.refl _ W3).alloc (Nat.le_refl _) (.cells #[.int .i64 (f.what : Int), .int .i64 (f.frm : Int), .int .i64 (f.to_ : Int), .slice oa3 nn3 cc3, .int .i64 f.parts, .int .i64 f.gone] 90)))
           generalize W3.alloc (.cells #[.int .i64 (f.what : Int), .int .i64 (f.frm : Int), .int .i64 (f.to_ : Int), .slice oa3 nn3 cc3, .int .i64 f.parts, .int .i64 f.gone] 90) = W4 at HB4 HR4 HD4 HP4 HRN4 ⊢
           obtain ⟨gd, hgd⟩ : ∃ g, W3.heap.size = g := ⟨_, rfl⟩
           rw [hgd] at HD4
           simp only [hgd]
           have hgd2 : gr < gd := by have := HB3.out.size; have := HR.out.lt; omega
           have hne1 : gr ≠ gd := by omega
           have hne2 : gd ≠ gr := by omega
           clear hgd
           obtain ⟨d0, d1, d2, d3, d4, d5, _⟩ := blk6x HD4.out
           obtain ⟨r0, r1, r2, r3, r4, r5, hgrl⟩ := blk6x HR4.out
           have zr0 := HR4.out.frozen 0
           have zr1 := HR4.out.frozen 1
           have zr2 := HR4.out.frozen 2
           have zr3 := HR4.out.frozen 3
           have zr4 := HR4.out.frozen 4
           have zr5 := HR4.out.frozen 5
           go_wp2_with fail
           try rw [Exit.noGoto_ret]
           refine bodyPost_ret (v := .tuple #[.agg #[.int .i64 (f.what : Int), .int .i64 (f.frm : Int), .int .i64 (f.to_ : Int), .slice oa3 nn3 cc3, .int .i64 f.parts, .int .i64 f.gone], .bool true]) ?_ rfl ?_
           · simp only [results, HRES.out]
             go_simp
           have hb9 : Below gr w ((((((W4.setCell ⟨gr, 0, none⟩ (.int .i64 (f.what : Int))).setCell ⟨gr, 1, none⟩ (.int .i64 (f.frm : Int))).setCell ⟨gr, 2, none⟩ (.int .i64 (f.to_ : Int))).setCell ⟨gr, 3, none⟩ (.slice oa3 nn3 cc3)).setCell ⟨gr, 4, none⟩ (.int .i64 f.parts)).setCell ⟨gr, 5, none⟩ (.int .i64 f.gone)) := bset (bset (bset (bset (bset (bset HB4.out (by exact Nat.le_refl _)) (by exact Nat.le_refl _)) (by exact Nat.le_refl _)) (by exact Nat.le_refl _)) (by exact Nat.le_refl _)) (by exact Nat.le_refl _)
           exact ⟨by rw [HE.out]; exact ⟨_, rfl, _, rfl, rin_keep1 HRN4.out HR4.out six_only⟩, by rw [HG.out]; exact hb9⟩
         | none =>
           go_upto_region 12 with (go_at_call 77; with_reducible refine HDO.out.mono ?_; rintro en W3 ⟨hr3, hb3⟩; simp only [FndV] at hr3; obtain ⟨m0, m1, m2, oa3, nn3, cc3, m4, m5, e3⟩ := hr3; subst e3; have HB3 := hide hb3; clear hb3)
           have HB4 := hide (HB.out.trans ((HB3.out.alloc HB3.out.size (.cells #[.int .i64 m0, .int .i64 m1, .int .i64 m2, .slice oa3 nn3 cc3, .int .i64 m4, .int .i64 m5] 90)).mono (by have := HB.out.size; have := HG.out; omega)))
           have HR4 := hide ((HR.out.below HB3.out HR.out.lt).alloc (.cells #[.int .i64 m0, .int .i64 m1, .int .i64 m2, .slice oa3 nn3 cc3, .int .i64 m4, .int .i64 m5] 90))
           have HD4 := hide (Blk.new W3 90 #[.int .i64 m0, .int .i64 m1, .int .i64 m2, .slice oa3 nn3 cc3, .int .i64 m4, .int .i64 m5])
           have HP4 := hide ((HP.out.below HB3.out HP.out.lt).alloc (.cells #[.int .i64 m0, .int .i64 m1, .int .i64 m2, .slice oa3 nn3 cc3, .int .i64 m4, .int .i64 m5] 90))
           have HRO4 := hide ((HROW.out.below HB3.out).below ((Below.refl _ W3).alloc (Nat.le_refl _) (.cells #[.int .i64 m0, .int .i64 m1, .int .i64 m2, .slice oa3 nn3 cc3, .int .i64 m4, .int .i64 m5] 90)))
           generalize W3.alloc (.cells #[.int .i64 m0, .int .i64 m1, .int .i64 m2, .slice oa3 nn3 cc3, .int .i64 m4, .int .i64 m5] 90) = W4 at HB4 HR4 HD4 HP4 HRO4 ⊢
           obtain ⟨ad9, e9, _, _, _, _, _, _, w5⟩ := acs_row HRO4.out.s (rowL_get (show 0 < l.length by have := HN.out; have := HJN.out; omega))
           injection e9 with e9
           subst e9
           rw [show ad.add (0 * 6) = ad by simp [Addr.add]] at w5
           have hN0 : (0 : Int) < (N : Int) := by have := HJN.out; omega
           by_cases hkz : (rowL l 0).n = 0
           · have hkb2 : ((rowL l 0).n == 0) = true := by simp [hkz]
             have HE := hide (HFST.out ⟨19, 0, 1, none, 0, 0⟩ (by rw [HX2.out]; simp [HZ.out, hkz]))
             clear hkz
             obtain ⟨r0, r1, r2, r3, r4, r5, hgrl⟩ := blk6x HR4.out
             have zr0 := HR4.out.frozen 0
             have zr1 := HR4.out.frozen 1
             have zr2 := HR4.out.frozen 2
             have zr3 := HR4.out.frozen 3
             have zr4 := HR4.out.frozen 4
             have zr5 := HR4.out.frozen 5
             go_wp2_with fail
             try rw [Exit.noGoto_ret]
             refine bodyPost_ret (v := .tuple #[.agg #[.int .i64 19, .int .i64 0, .int .i64 1, .slice none 0 0, .int .i64 0, .int .i64 0], .bool true]) ?_ rfl ?_
             · simp only [results, HRES.out]
               go_simp
             have hb9 : Below gr w ((((((W4.setCell ⟨gr, 0, none⟩ (.int .i64 19)).setCell ⟨gr, 1, none⟩ (.int .i64 0)).setCell ⟨gr, 2, none⟩ (.int .i64 1)).setCell ⟨gr, 3, none⟩ (.slice none 0 0)).setCell ⟨gr, 4, none⟩ (.int .i64 0)).setCell ⟨gr, 5, none⟩ (.int .i64 0)) := bset (bset (bset (bset (bset (bset HB4.out (by exact Nat.le_refl _)) (by exact Nat.le_refl _)) (by exact Nat.le_refl _)) (by exact Nat.le_refl _)) (by exact Nat.le_refl _)) (by exact Nat.le_refl _)
             exact ⟨by rw [HE.out]; exact ⟨_, rfl, _, rfl, rfl⟩, by rw [HG.out]; exact hb9⟩
           · have hkb2 : ((rowL l 0).n == 0) = false := by simp [hkz]
             have HXN := hide (show X = none by rw [HX2.out]; simp [hkz])
             clear hkz
             go_wp2_with fail
             go_roundw
             case rel => exact ⟨j + 1, by go_num, by have := HJN.out; omega, hide (HNXT.out HXN.out), HB4.out, HR4.out, HP4.out⟩
             case measure =>
               simp only [intOf]
               have := HJN.out
               omega
       · have hkI : ¬ (16 : Int) < (rowL l j).k := hk
         have hj1 : (0 : Int) < (j : Int) := by omega
         have hj2 : ((j : Int) == 0) = false := by simp [hz]
         obtain ⟨p, hpv, hpl⟩ := HLK.out.up (by omega)
         have cp := blk_int HP.out hpv
         obtain ⟨ad9, e9, _, p0, _⟩ := acs_row HROW.out.s (rowL_get hpl)
         injection e9 with e9
         subst e9
         obtain ⟨kb, hkb⟩ : ∃ b, ((rowL l p).k == 1) = b := ⟨_, rfl⟩
         have hinb : inbV l j = kb := by rw [← hkb]; simp [inbV, hpv]; rw [show (decide (0 < j)) = true by simp; omega]; simp [Int.toNat_natCast]; rfl
         rw [HN.out] at hpl
         have hp1 : (p : Int) < (N : Int) := by omega
         have hp2 : (0 : Int) ≤ (p : Int) := by omega
         clear hpv hpl
         have hdo := doing_i wr ad c l j (endL l j) (rowL l j) (inbV l j) (spL l j) (hsL l (spL l j)) HROW.out HSM.out HL.out HXR.out HLK.out.k HLK.out.e (HLK.out.d hk)
         rw [HN.out] at hdo
         have HX2 := hide (show X = (match doingV l j (endL l j) (rowL l j) ((spL l j).map (sub l)) (hsL l (spL l j)) (inbV l j) with | some f => some f | none => if j = 0 ∧ (rowL l 0).n = 0 then some ⟨19, 0, 1, none, 0, 0⟩ else none) by rw [← HX.out]; unfold lookA; rw [if_neg hk])
         obtain ⟨DV, hDV⟩ : ∃ D, doingV l j (endL l j) (rowL l j) ((spL l j).map (sub l)) (hsL l (spL l j)) (inbV l j) = D := ⟨_, rfl⟩
         rw [hDV] at hdo HX2
         rw [hinb] at hdo
         have HDO := hide hdo
         have HZ := hide hz
         clear hdo hDV hk hz hinb
         cases DV with
         | some f =>
           have HE := hide (HFST.out f (by rw [HX2.out]))
           go_upto_region 12 with (go_at_call 77; with_reducible refine HDO.out.mono ?_; rintro en W3 ⟨hr3, hb3⟩; simp only [FndV, FdV] at hr3; obtain ⟨v3, e3, u3, e4, hr4⟩ := hr3; subst e3; subst e4; obtain ⟨oa3, nn3, cc3, e4⟩ := rin_form hr4; subst e4; have HRN := hide hr4; have HB3 := hide hb3; clear hr4 hb3)
           have HB4 := hide (HB.out.trans ((HB3.out.alloc HB3.out.size (.cells #[.int .i64 (f.what : Int), .int .i64 (f.frm : Int), .int .i64 (f.to_ : Int), .slice oa3 nn3 cc3, .int .i64 f.parts, .int .i64 f.gone] 90)).mono (by have := HB.out.size; have := HG.out; omega)))
           have HR4 := hide ((HR.out.below HB3.out HR.out.lt).alloc (.cells #[.int .i64 (f.what : Int), .int .i64 (f.frm : Int), .int .i64 (f.to_ : Int), .slice oa3 nn3 cc3, .int .i64 f.parts, .int .i64 f.gone] 90))
           have HD4 := hide (Blk.new W3 90 #[.int .i64 (f.what : Int), .int .i64 (f.frm : Int), .int .i64 (f.to_ : Int), .slice oa3 nn3 cc3, .int .i64 f.parts, .int .i64 f.gone])
           have HP4 := hide ((HP.out.below HB3.out HP.out.lt).alloc (.cells #[.int .i64 (f.what : Int), .int .i64 (f.frm : Int), .int .i64 (f.to_ : Int), .slice oa3 nn3 cc3, .int .i64 f.parts, .int .i64 f.gone] 90))
           have HRN4 := hide (HRN.out.below ((Below.refl _ W3).alloc (Nat.le_refl _) (.cells #[.int .i64 (f.what : Int), .int .i64 (f.frm : Int), .int .i64 (f.to_ : Int), .slice oa3 nn3 cc3, .int .i64 f.parts, .int .i64 f.gone] 90)))
           generalize W3.alloc (.cells #[.int .i64 (f.what : Int), .int .i64 (f.frm : Int), .int .i64 (f.to_ : Int), .slice oa3 nn3 cc3, .int .i64 f.parts, .int .i64 f.gone] 90) = W4 at HB4 HR4 HD4 HP4 HRN4 ⊢
           obtain ⟨gd, hgd⟩ : ∃ g, W3.heap.size = g := ⟨_, rfl⟩
           rw [hgd] at HD4
           simp only [hgd]
           have hgd2 : gr < gd := by have := HB3.out.size; have := HR.out.lt; omega
           have hne1 : gr ≠ gd := by omega
           have hne2 : gd ≠ gr := by omega
           clear hgd
           obtain ⟨d0, d1, d2, d3, d4, d5, _⟩ := blk6x HD4.out
           obtain ⟨r0, r1, r2, r3, r4, r5, hgrl⟩ := blk6x HR4.out
           have zr0 := HR4.out.frozen 0
           have zr1 := HR4.out.frozen 1
           have zr2 := HR4.out.frozen 2
           have zr3 := HR4.out.frozen 3
           have zr4 := HR4.out.frozen 4
           have zr5 := HR4.out.frozen 5
           go_wp2_with fail
           try rw [Exit.noGoto_ret]
           refine bodyPost_ret (v := .tuple #[.agg #[.int .i64 (f.what : Int), .int .i64 (f.frm : Int), .int .i64 (f.to_ : Int), .slice oa3 nn3 cc3, .int .i64 f.parts, .int .i64 f.gone], .bool true]) ?_ rfl ?_
           · simp only [results, HRES.out]
             go_simp
           have hb9 : Below gr w ((((((W4.setCell ⟨gr, 0, none⟩ (.int .i64 (f.what : Int))).setCell ⟨gr, 1, none⟩ (.int .i64 (f.frm : Int))).setCell ⟨gr, 2, none⟩ (.int .i64 (f.to_ : Int))).setCell ⟨gr, 3, none⟩ (.slice oa3 nn3 cc3)).setCell ⟨gr, 4, none⟩ (.int .i64 f.parts)).setCell ⟨gr, 5, none⟩ (.int .i64 f.gone)) := bset (bset (bset (bset (bset (bset HB4.out (by exact Nat.le_refl _)) (by exact Nat.le_refl _)) (by exact Nat.le_refl _)) (by exact Nat.le_refl _)) (by exact Nat.le_refl _)) (by exact Nat.le_refl _)
           exact ⟨by rw [HE.out]; exact ⟨_, rfl, _, rfl, rin_keep1 HRN4.out HR4.out six_only⟩, by rw [HG.out]; exact hb9⟩
         | none =>
           go_upto_region 12 with (go_at_call 77; with_reducible refine HDO.out.mono ?_; rintro en W3 ⟨hr3, hb3⟩; simp only [FndV] at hr3; obtain ⟨m0, m1, m2, oa3, nn3, cc3, m4, m5, e3⟩ := hr3; subst e3; have HB3 := hide hb3; clear hb3)
           have HB4 := hide (HB.out.trans ((HB3.out.alloc HB3.out.size (.cells #[.int .i64 m0, .int .i64 m1, .int .i64 m2, .slice oa3 nn3 cc3, .int .i64 m4, .int .i64 m5] 90)).mono (by have := HB.out.size; have := HG.out; omega)))
           have HR4 := hide ((HR.out.below HB3.out HR.out.lt).alloc (.cells #[.int .i64 m0, .int .i64 m1, .int .i64 m2, .slice oa3 nn3 cc3, .int .i64 m4, .int .i64 m5] 90))
           have HD4 := hide (Blk.new W3 90 #[.int .i64 m0, .int .i64 m1, .int .i64 m2, .slice oa3 nn3 cc3, .int .i64 m4, .int .i64 m5])
           have HP4 := hide ((HP.out.below HB3.out HP.out.lt).alloc (.cells #[.int .i64 m0, .int .i64 m1, .int .i64 m2, .slice oa3 nn3 cc3, .int .i64 m4, .int .i64 m5] 90))
           have HRO4 := hide ((HROW.out.below HB3.out).below ((Below.refl _ W3).alloc (Nat.le_refl _) (.cells #[.int .i64 m0, .int .i64 m1, .int .i64 m2, .slice oa3 nn3 cc3, .int .i64 m4, .int .i64 m5] 90)))
           generalize W3.alloc (.cells #[.int .i64 m0, .int .i64 m1, .int .i64 m2, .slice oa3 nn3 cc3, .int .i64 m4, .int .i64 m5] 90) = W4 at HB4 HR4 HD4 HP4 HRO4 ⊢
           have HXN := hide (show X = none by rw [HX2.out]; simp [HZ.out])
           go_wp2_with fail
           go_roundw
           case rel => exact ⟨j + 1, by go_num, by have := HJN.out; omega, hide (HNXT.out HXN.out), HB4.out, HR4.out, HP4.out⟩
           case measure =>
             simp only [intOf]
             have := HJN.out
             omega
     · have hjI : ¬ (j : Int) < (N : Int) := by omega
       have HE := hide (show V = none by rw [← HV.out]; unfold leftF; rw [HN.out]; exact find_none (fun i hi => HF.out i (by omega)))
       clear hjn
       obtain ⟨r0, r1, r2, r3, r4, r5, hgrl⟩ := blk6x HR.out
       have zr0 := HR.out.frozen 0
       have zr1 := HR.out.frozen 1
       have zr2 := HR.out.frozen 2
       have zr3 := HR.out.frozen 3
       have zr4 := HR.out.frozen 4
       have zr5 := HR.out.frozen 5
       go_wp2_with fail
       try rw [Exit.noGoto_ret]
       refine bodyPost_ret (v := .tuple #[.agg #[.int .i64 0, .int .i64 0, .int .i64 0, .slice none 0 0, .int .i64 0, .int .i64 0], .bool false]) ?_ rfl ?_
       · simp only [results, HRES.out]
         go_simp
       have hb9 : Below gr w ((((((wr.setCell ⟨gr, 0, none⟩ (.int .i64 0)).setCell ⟨gr, 1, none⟩ (.int .i64 0)).setCell ⟨gr, 2, none⟩ (.int .i64 0)).setCell ⟨gr, 3, none⟩ (.slice none 0 0)).setCell ⟨gr, 4, none⟩ (.int .i64 0)).setCell ⟨gr, 5, none⟩ (.int .i64 0)) := bset (bset (bset (bset (bset (bset HB.out (by exact Nat.le_refl _)) (by exact Nat.le_refl _)) (by exact Nat.le_refl _)) (by exact Nat.le_refl _)) (by exact Nat.le_refl _)) (by exact Nat.le_refl _)
       exact ⟨by rw [HE.out]; exact ⟨_, _, _, _, _, _, _, _, rfl⟩, by rw [HG.out]; exact hb9⟩
end Go.Proofs.Ytdpokdcendgfeaa
namespace Go.Proofs.Ytdpokdcendgfeaa
open Go.RowKit
theorem infE : (Try.prog.info? 88).map (fun i => (i.zero, i.size, i.bytes)) = some (some (.agg #[.int .i64 0, .pointer none]), 2, 16) := by kernel_rfl
/-- a plan's events but the miss's -/
def evL (oo : Option Addr) : Nat → List Value
 | 0 => []
 | i + 1 => evL oo i ++ [.int .i64 (i : Int), .pointer (oo.map (·.add i))]
theorem evL_len (oo : Option Addr) : ∀ n, (evL oo n).length = n * 2
 | 0 => rfl
 | n + 1 => by rw [evL, List.length_append, evL_len oo n]; simp; omega
/-- all events of a plan -/
def evs (oo : Option Addr) (n gp : Nat) : List Value := evL oo n ++ [.int .i64 (-1), .pointer (some ⟨gp, 4, none⟩)]
theorem two_at (w : World) (t : TypeId) (x y : Value) : ∀ j u, [x, y][j]? = some u → (w.alloc (.cells #[x, y] t)).cell? ((⟨w.heap.size, 0, none⟩ : Addr).add j) = some u := by
 intro j u hj
 match j with
 | 0 =>
   simp at hj
   subst hj
   exact (Blk.new w t #[x, y]).cell 0
 | 1 =>
   simp at hj
   subst hj
   exact (Blk.new w t #[x, y]).cell 1
 | j + 2 => simp at hj
set_option maxRecDepth 100000 in
theorem events_i (w : World) (gp no co : Nat) (oo : Option Addr) (h3 : w.cell? ⟨gp, 3, none⟩ = some (.slice oo no co)) (hg : gp < w.heap.size) (ho : 0 < no → ∃ ao, oo = some ao) (hno : no ≤ 131072) :
   Calls Try.prog 51 #[.pointer (some ⟨gp, 0, none⟩)] w fun en w' => ∃ v, en = .returned v ∧ w'.ownsRow w.heap.size 88 2 v (no + 1) (evs oo no gp) ∧ Below w.heap.size w w' := by
 obtain ⟨i3, hi3, hz0, hz1, hz2⟩ := info_parts3 infE
 have HO0 := hide (World.ownsRow_nil w w.heap.size 88 2)
 have HNO := hide hno
 have HOO := hide ho
 have H3 := hide h3
 have HG := hide hg
 clear ho
 go_enter Try.func51, Try.ntmps51
 go_wp2_with fail
 go_loopw [3, 10] (fun t3 t10 W => ∃ j : Nat, t10 = .int .i64 (j : Int) ∧ j ≤ no ∧ W.ownsRow w.heap.size 88 2 t3 j (evL oo j) ∧ Below w.heap.size w W) (fun _ t10 _ => no - (intOf t10).toNat)
 case atStart => exact ⟨0, rfl, Nat.zero_le _, HO0.out, Below.refl _ _⟩
 case round =>
   obtain ⟨j, rfl, hj, how, hb⟩ := hrel
   have HOW := hide how
   have HB := hide hb
   have hq := IntWalk.i64_in ((j : Int) + 1) (by omega)
   have c3 := (hb.cell (p := ⟨gp, 3, none⟩) hg).trans h3
   by_cases hjn : j < no
   · have hjI : (j : Int) < (no : Int) := by omega
     have hj0 : (0 : Int) ≤ (j : Int) := by omega
     have HJN := hide hjn
     obtain ⟨ao, rfl⟩ := HOO.out (by omega)
     have HBA := hide (hb.alloc hb.size (.cells #[.int .i64 (j : Int), .pointer (some (ao.add j))] 88))
     have HOA := hide (own_keep (w' := wr.alloc (.cells #[.int .i64 (j : Int), .pointer (some (ao.add j))] 88)) how (fun g hg => Below.heap_alloc _ _ g (how.lt g hg).2))
     have HTW := hide (two_at wr 88 (.int .i64 (j : Int)) (.pointer (some (ao.add j))))
     clear how hb hjn
     go_wp2_with (at_builtin; refine wpList_append_own_at _ rfl (.tmp 13) (.tmp 22) 83 rfl w.heap.size 88 i3 _ 2 16 Try.underlying83 hi3 hz0 hz1 hz2 rfl (by decide) u3 j (evL (some ao) j) rfl HOA.out ⟨wr.heap.size, 0, none⟩ 1 1 [.int .i64 (j : Int), .pointer (some (ao.add j))] rfl rfl HTW.out (by simp [Value.oneCell']) (by unfold maxLen; have := HNO.out; omega) (by have := HNO.out; omega) (by have := HB.out.size; simp; omega) ?_; rintro v3 w3 hown3 hgr3 hnil3 hat3; clear hnil3 hat3; have HO9 := hide hown3; have HG9 := hide hgr3; clear hown3 hgr3)
     go_roundw
     case rel => exact ⟨j + 1, by go_num, by have := HJN.out; omega, HO9.out, HBA.out.trans (below_grow HG9.out (fun g hg => (HOA.out.lt g hg).1) HBA.out.size)⟩
     case measure =>
       simp only [intOf]
       have := HJN.out
       omega
   · have hjI : ¬ (j : Int) < (no : Int) := by omega
     obtain rfl : j = no := by omega
     have HBA := hide (hb.alloc hb.size (.cells #[.int .i64 (-1), .pointer (some ⟨gp, 4, none⟩)] 88))
     have HOA := hide (own_keep (w' := wr.alloc (.cells #[.int .i64 (-1), .pointer (some ⟨gp, 4, none⟩)] 88)) how (fun g hg => Below.heap_alloc _ _ g (how.lt g hg).2))
     have HTW := hide (two_at wr 88 (.int .i64 (-1)) (.pointer (some ⟨gp, 4, none⟩)))
     clear how hb hjn
     go_wp2_with (at_builtin; refine wpList_append_own_at _ rfl (.tmp 25) (.tmp 30) 83 rfl w.heap.size 88 i3 _ 2 16 Try.underlying83 hi3 hz0 hz1 hz2 rfl (by decide) u3 j (evL oo j) rfl HOA.out ⟨wr.heap.size, 0, none⟩ 1 1 [.int .i64 (-1), .pointer (some ⟨gp, 4, none⟩)] rfl rfl HTW.out (by simp [Value.oneCell']) (by unfold maxLen; have := HNO.out; omega) (by have := HNO.out; omega) (by have := HB.out.size; simp; omega) ?_; rintro v3 w3 hown3 hgr3 hnil3 hat3; clear hnil3 hat3; have HO9 := hide hown3; have HG9 := hide hgr3; clear hown3 hgr3)
     go_ret
     exact ⟨_, rfl, HO9.out, HBA.out.trans (below_grow HG9.out (fun g hg => (HOA.out.lt g hg).1) HBA.out.size)⟩
end Go.Proofs.Ytdpokdcendgfeaa
