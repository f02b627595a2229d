/- Several texts in one: The reference's checker in memory; the walk of want. The walk of the reference's block. Conditions: those of each. -/
import Derived.Test.YtdpokdcendgfeaaZ20
set_option linter.unusedSimpArgs false
set_option linter.unusedVariables false
set_option maxHeartbeats 40000000
namespace Go.Proofs.Ytdpokdcendgfeaa
open Go.RowKit
/-- what rows want, from the place m on -/
def wantsM (l : List Ac) (m : Nat) : List Int := (List.range l.length).map fun j => if m ≤ j then wantW l j else 0
theorem wantsM_length (l : List Ac) (m : Nat) : (wantsM l m).length = l.length := by simp [wantsM]
theorem wantsM_start (l : List Ac) : wantsM l l.length = List.replicate l.length 0 := by
 apply List.ext_getElem?
 intro j
 simp only [wantsM, List.getElem?_map, List.getElem?_replicate]
 by_cases hj : j < l.length
 · rw [List.getElem?_range hj, if_pos hj, Option.map_some, if_neg (by omega)]
 · rw [List.getElem?_eq_none (by simp; omega), if_neg hj]
   rfl
theorem wantsM_get {l : List Ac} {m j : Nat} (h1 : m ≤ j) (h2 : j < l.length) : (wantsM l m)[j]? = some (wantW l j) := by
 simp only [wantsM, List.getElem?_map, List.getElem?_range h2, Option.map_some, if_pos h1]
theorem wantsM_low {l : List Ac} {m j : Nat} (h1 : j < m) (h2 : j < l.length) : (wantsM l m)[j]? = some 0 := by
 simp only [wantsM, List.getElem?_map, List.getElem?_range h2, Option.map_some, if_neg (show ¬ m ≤ j by omega)]
theorem wantsM_set {l : List Ac} {a : Nat} (h2 : a < l.length) : (wantsM l (a + 1)).set a (wantW l a) = wantsM l a := by
 apply List.ext_getElem?
 intro j
 rw [List.getElem?_set, wantsM_length]
 by_cases hj : a = j
 · subst hj
   rw [if_pos rfl, if_pos h2, wantsM_get (Nat.le_refl _) h2]
 · rw [if_neg hj]
   simp only [wantsM, List.getElem?_map]
   by_cases hl : j < l.length
   · rw [List.getElem?_range hl]
     simp only [Option.map_some]
     by_cases h : a ≤ j
     · rw [if_pos (by omega), if_pos h]
     · rw [if_neg (by omega), if_neg h]
   · rw [List.getElem?_eq_none (by simp; omega)]
     rfl
theorem wantsM_same {l : List Ac} {a : Nat} (h2 : a < l.length) (h : wantW l a = 0) : wantsM l (a + 1) = wantsM l a := by
 rw [← wantsM_set h2, h]
 apply List.ext_getElem?
 intro j
 rw [List.getElem?_set, wantsM_length]
 by_cases hj : a = j
 · subst hj
   rw [if_pos rfl, if_pos h2, wantsM_low (by omega) h2]
 · rw [if_neg hj]
def ckr (q : PlV) (ad : Addr) (c : Nat) (l : List Ac) (ge gw : Nat) : Array Value := #[.slice q.ga q.gl q.gc, .slice q.va q.vl q.vc, .slice q.ta q.tl q.tc, .slice q.oa q.ol q.oc, .slice q.ma q.ml q.mc, .slice (some ad) l.length c, .slice (some ⟨ge, 0, none⟩) l.length l.length, .slice (some ⟨gw, 0, none⟩) l.length l.length]
/-- the reference's checker in memory -/
structure CkrR (w : World) (g : Nat) (q : PlV) (P : Pl) (ad : Addr) (c : Nat) (l : List Ac) (ge gw m : Nat) : Prop where
 k : Blk w g 127 (ckr q ad c l ge gw)
 p : Pm w q P
 s : Src w (some ad) l.length (acs l)
 e : Blk w ge 3 (ints (endsE l 0)).toArray
 n : Blk w gw 3 (ints (wantsM l m)).toArray
 b : l.length ≤ 1048576
theorem CkrR.below {w w' : World} {g : Nat} {q : PlV} {P : Pl} {ad : Addr} {c : Nat} {l : List Ac} {ge gw m : Nat} (h : CkrR w g q P ad c l ge gw m) (hb : Below w.heap.size w w') : CkrR w' g q P ad c l ge gw m :=
 ⟨h.k.below hb h.k.lt, h.p.below hb, h.s.below hb, h.e.below hb h.e.lt, h.n.below hb h.n.lt, h.b⟩
set_option maxRecDepth 100000 in
theorem wantR_i (w : World) (g : Nat) (q : PlV) (P : Pl) (ad : Addr) (c : Nat) (l : List Ac) (ge gw a : Nat) (x : Ac) (h : CkrR w g q P ad c l ge gw (a + 1)) (hT : EvTree l) (hx : l[a]? = some x) (hW : ∀ j, a < j → j < l.length → 0 ≤ wantW l j ∧ wantW l j ≤ 256) :
   Calls Try.prog 83 #[.pointer (some ⟨g, 0, none⟩), .int .i64 (a : Int)] w fun en w' => en = .returned (.int .i64 (wantsR (wantW l) (endE l) a x)) ∧ Below w.heap.size w w' := by
 have hal := (List.getElem?_eq_some_iff.1 hx).1
 have hbl := h.b
 have ck1 : w.cell? ⟨g, 5, none⟩ = some (.slice (some ad) l.length c) := by rw [h.k.cell]; rfl
 have ck2 : w.cell? ⟨g, 6, none⟩ = some (.slice (some ⟨ge, 0, none⟩) l.length l.length) := by rw [h.k.cell]; rfl
 have ck3 : w.cell? ⟨g, 7, none⟩ = some (.slice (some ⟨gw, 0, none⟩) l.length l.length) := by rw [h.k.cell]; rfl
 have hgl := h.k.lt
 have hel := h.e.lt
 have hwl := h.n.lt
 obtain ⟨ad', e', hab, q0, q1, q2, q3, q4, q5⟩ := acs_row h.s hx
 cases e'
 obtain ⟨x', hx', hn0, hch, _⟩ := hT.2 a hal
 rw [hx] at hx'
 injection hx' with hx'
 subst hx'
 obtain ⟨N, hN⟩ : ∃ N : Nat, x.n = (N : Int) := ⟨x.n.toNat, by omega⟩
 rw [hN, Int.toNat_natCast] at hch
 have ha0 : (0 : Int) ≤ (a : Int) := by omega
 have haL : (a : Int) < (l.length : Int) := by omega
 have u1 := IntWalk.i64_in ((a : Int) + 1) (by omega)
 have ha10 : (0 : Int) ≤ (a : Int) + 1 := by omega
 have hnat : ((a : Int) + 1).toNat = a + 1 := by omega
 obtain ⟨r, hr⟩ : ∃ r, wantsR (wantW l) (endE l) a x = r := ⟨_, rfl⟩
 rw [hr]
 have HR := hide hr
 have HH := hide h
 have HX := hide hx
 have HW := hide hW
 have HT := hide hT
 have HCH := hide hch
 have HN := hide hN
 obtain ⟨k0, a0, b0, c0, d0, n0⟩ := x
 simp only at hN q0 q1 q2 q3 q4 q5
 subst hN
 clear h hx hr hW hT hch hn0
 have HBA := hide ((Below.refl w.heap.size w).alloc (Nat.le_refl _) (.cells #[.int .i64 k0, .int .i64 a0, .int .i64 b0, .int .i64 c0, .int .i64 d0, .int .i64 (N : Int)] 49))
 by_cases hk : k0 = 25
 · subst hk
   have HV := hide (show r = 1 by rw [← HR.out]; unfold wantsR; rw [if_pos (.inl rfl)])
   go_enter Try.func83, Try.ntmps83
   go_wp2_with fail
   go_ret
   exact ⟨by rw [HV.out]; rfl, by first | exact HBA.out | exact below_drewN HBA.out _⟩
 by_cases hN0 : N = 0
 · subst hN0
   have HV := hide (show r = 1 by rw [← HR.out]; unfold wantsR; rw [if_pos (.inr rfl)])
   go_enter Try.func83, Try.ntmps83
   go_wp2_with fail
   go_ret
   exact ⟨by rw [HV.out]; rfl, by first | exact HBA.out | exact below_drewN HBA.out _⟩
 have hNI : ¬ (N : Int) = 0 := by omega
 have hx1 : a + 1 < l.length := HCH.out 0 (by omega)
 have hx1I : (a : Int) + 1 < (l.length : Int) := by omega
 obtain ⟨W1, hW1⟩ : ∃ W1, wantW l (a + 1) = W1 := ⟨_, rfl⟩
 have cw1 : w.cell? ⟨gw, a + 1, none⟩ = some (.int .i64 W1) := by rw [← hW1]; exact blk_int HH.out.n (wantsM_get (Nat.le_refl _) hx1)
 have HW1 := hide hW1
 have hw1 := HW.out (a + 1) (by omega) hx1
 rw [hW1] at hw1
 obtain ⟨hw10, hw11⟩ := hw1
 clear hW1
 by_cases hN1 : N = 1
 · subst hN1
   have HV := hide (show r = W1 by rw [← HR.out, ← HW1.out]; unfold wantsR; rw [if_neg (by simp [hk]), if_pos (by simp)])
   go_enter Try.func83, Try.ntmps83
   go_wp2_with fail
   go_ret
   exact ⟨by rw [HV.out]; rfl, by first | exact HBA.out | exact below_drewN HBA.out _⟩
 have hNI1 : ¬ (N : Int) = 1 := by omega
 have hkb : (k0 == 25) = false := by simp [hk]
 have hNb : ((N : Int) == 0) = false := by rw [beq_eq_false_iff_ne]; omega
 have hNb1 : ((N : Int) == 1) = false := by rw [beq_eq_false_iff_ne]; omega
 obtain ⟨e, he⟩ : ∃ e, endE l (a + 1) = e := ⟨_, rfl⟩
 have hx2 : e < l.length := by rw [← he]; exact HCH.out 1 (by omega)
 have hae : a < e := by rw [← he]; exact endE_gt (by omega)
 have ce1 : w.cell? ⟨ge, a + 1, none⟩ = some (.int .i64 (e : Int)) := by rw [← he]; exact blk_int HH.out.e (endsE_get (Nat.zero_le _) hx1)
 have he0 : (0 : Int) ≤ (e : Int) := by omega
 have heI : (e : Int) < (l.length : Int) := by omega
 obtain ⟨W2, hW2⟩ : ∃ W2, wantW l e = W2 := ⟨_, rfl⟩
 have cw2 : w.cell? ⟨gw, e, none⟩ = some (.int .i64 W2) := by rw [← hW2]; exact blk_int HH.out.n (wantsM_get (by omega) hx2)
 have hw2 := HW.out e hae hx2
 rw [hW2] at hw2
 obtain ⟨hw20, hw21⟩ := hw2
 have u2 := IntWalk.i64_in (W2 + 1) (by omega)
 have HV0 := hide (show r = max W1 (if k0 = 37 ∨ k0 = 38 then W2 else W2 + 1) by rw [← HR.out, ← HW1.out, ← hW2, ← he]; unfold wantsR; rw [if_neg (show ¬ (k0 = 25 ∨ (N : Int) = 0) from fun h => h.elim hk hNI), if_neg (show ¬ (N : Int) = 1 from hNI1)])
 clear he hW2
 by_cases h37 : k0 = 37 ∨ k0 = 38
 · have HV1 := hide (show r = max W1 W2 by rw [HV0.out, if_pos h37])
   by_cases hgt : W2 < W1
   · have HV := hide (show r = W1 by rw [HV1.out]; omega)
     rcases h37 with rfl | rfl
     all_goals
       go_enter Try.func83, Try.ntmps83
       go_wp2_with fail
       go_quiet (fail)
       go_wp2_with fail
       go_ret
       exact ⟨by rw [HV.out]; rfl, by first | exact HBA.out | exact below_drewN HBA.out _⟩
   · have HV := hide (show r = W2 by rw [HV1.out]; omega)
     rcases h37 with rfl | rfl
     all_goals
       go_enter Try.func83, Try.ntmps83
       go_wp2_with fail
       go_quiet (fail)
       go_wp2_with fail
       go_ret
       exact ⟨by rw [HV.out]; rfl, by first | exact HBA.out | exact below_drewN HBA.out _⟩
 · have HV1 := hide (show r = max W1 (W2 + 1) by rw [HV0.out, if_neg h37])
   have h37a : ¬ k0 = 37 := fun h => h37 (.inl h)
   have h37b : ¬ k0 = 38 := fun h => h37 (.inr h)
   clear h37
   have h37c : (k0 != 37) = true := by simp [h37a]
   have h37d : (k0 != 38) = true := by simp [h37b]
   by_cases hgt : W2 + 1 < W1
   · have HV := hide (show r = W1 by rw [HV1.out]; omega)
     go_enter Try.func83, Try.ntmps83
     go_wp2_with fail
     go_quiet (fail)
     go_wp2_with fail
     go_ret
     exact ⟨by rw [HV.out]; rfl, by first | exact HBA.out | exact below_drewN HBA.out _⟩
   · have HV := hide (show r = W2 + 1 by rw [HV1.out]; omega)
     go_enter Try.func83, Try.ntmps83
     go_wp2_with fail
     go_quiet (fail)
     go_wp2_with fail
     go_ret
     exact ⟨by rw [HV.out]; rfl, by first | exact HBA.out | exact below_drewN HBA.out _⟩
end Go.Proofs.Ytdpokdcendgfeaa
namespace Go.Proofs.Ytdpokdcendgfeaa
open Go.RowKit
theorem bT {w W V : World} (h : Below w.heap.size w W) (k : Below W.heap.size W V) : Below w.heap.size w V := h.trans (k.mono h.size)
theorem bU {w W V : World} (h : Below w.heap.size w W) (k : Below W.heap.size W V) (n : Nat) : Below w.heap.size w (V.drewN n) := bT h (below_drewN k n)
theorem blockR_no {P : Pl} {l : List Ac} {E : Nat → Nat} {m next : Nat} {h : Int} {x : Ac} (hx : l[next]? = some x) (hh : standsR x.k 2 = false ∨ ((x.k = 9 ∨ x.k = 10) ∧ fromV x.a 0 ((P.gh.length : Int) - 1) = false) ∨ handR P x h = none) : blockR P l E (m + 1) next h = false := by
 unfold blockR
 rw [hx]
 simp only
 by_cases h1 : standsR x.k 2 = false
 · rw [if_pos h1]
 · rw [if_neg h1]
   by_cases h2 : (x.k = 9 ∨ x.k = 10) ∧ fromV x.a 0 ((P.gh.length : Int) - 1) = false
   · rw [if_pos h2]
   · rw [if_neg h2]
     rcases hh with hh | hh | hh
     · exact absurd hh h1
     · exact absurd hh h2
     · rw [hh]
theorem blockR_last {P : Pl} {l : List Ac} {E : Nat → Nat} {next : Nat} {h : Int} : blockR P l E 0 next h = decide (h = 0) := rfl
theorem handR_other {P : Pl} {x : Ac} (hk : ¬ (9 ≤ x.k ∧ x.k ≤ 12)) : handR P x 0 = some 0 := by
 unfold handR
 rw [if_neg (by omega), if_neg (by omega), if_neg (by omega), if_neg (by omega), if_neg (by omega), if_neg (by omega)]
theorem handR_other_no {P : Pl} {x : Ac} {h : Int} (hk : ¬ (9 ≤ x.k ∧ x.k ≤ 12)) (hh : h ≠ 0) : handR P x h = none := by
 unfold handR
 rw [if_neg (by omega), if_neg (by omega), if_neg (by omega), if_neg (by omega), if_neg (by omega), if_pos (.inr hh)]
theorem stands_two {k : Int} (h : 1 ≤ k ∧ k ≤ 16) : standsR k 2 = true := by unfold standsR; simp [h.1, h.2]
theorem blk_dec (h : Int) : decide (h = 0) = (h == 0) := by rw [Bool.eq_iff_iff]; simp
theorem stands_two_no {k : Int} (h : ¬ (1 ≤ k ∧ k ≤ 16)) : standsR k 2 = false := by
 unfold standsR
 simp
 omega
theorem CkrR.cells {w : World} {g : Nat} {q : PlV} {P : Pl} {ad : Addr} {c : Nat} {l : List Ac} {ge gw m : Nat} (h : CkrR w g q P ad c l ge gw m) :
   w.cell? ⟨g, 0, none⟩ = some (.slice q.ga q.gl q.gc) ∧ w.cell? ⟨g, 5, none⟩ = some (.slice (some ad) l.length c) ∧ w.cell? ⟨g, 6, none⟩ = some (.slice (some ⟨ge, 0, none⟩) l.length l.length) ∧ w.cell? ⟨g, 7, none⟩ = some (.slice (some ⟨gw, 0, none⟩) l.length l.length) := by
 refine ⟨?_, ?_, ?_, ?_⟩ <;> (rw [h.k.cell]; rfl)
set_option maxRecDepth 100000 in
theorem blockR_i (w : World) (g : Nat) (q : PlV) (P : Pl) (ad : Addr) (c : Nat) (l : List Ac) (ge gw m a : Nat) (x : Ac) (h : CkrR w g q P ad c l ge gw m) (hT : EvTree l) (hx : l[a]? = some x) :
   Calls Try.prog 125 #[.pointer (some ⟨g, 0, none⟩), .int .i64 (a : Int)] w fun en w' => en = .returned (.bool (blockR P l (endE l) x.n.toNat (a + 1) 0)) ∧ Below w.heap.size w w' := by
 have hal := (List.getElem?_eq_some_iff.1 hx).1
 have hbl := h.b
 obtain ⟨x', hx', hn0, hch, _⟩ := hT.2 a hal
 rw [hx] at hx'
 injection hx' with hx'
 subst hx'
 obtain ⟨N, hN⟩ : ∃ N : Nat, x.n = (N : Int) := ⟨x.n.toNat, by omega⟩
 rw [hN, Int.toNat_natCast] at hch
 rw [hN, Int.toNat_natCast]
 have ha0 : (0 : Int) ≤ (a : Int) := by omega
 have haL : (a : Int) < (l.length : Int) := by omega
 have u1 := IntWalk.i64_in ((a : Int) + 1) (by omega)
 obtain ⟨r, hr⟩ : ∃ r, blockR P l (endE l) N (a + 1) 0 = r := ⟨_, rfl⟩
 rw [hr]
 have HR := hide hr
 have HH := hide h
 have HX := hide hx
 have HT := hide hT
 have HCH := hide hch
 have HN := hide hN
 have HST := fun (W : World) (k : Int) => hide (standsR_i W k 2)
 have HF := fun (W : World) (y lo hi : Int) => hide (to_i W y lo hi)
 have hgl : P.gh.length ≤ 9223372036854775807 := by have := h.p.l.1; unfold maxLen at this; omega
 have u2 := IntWalk.i64_in ((P.gh.length : Int) - 1) (by omega)
 have hNl : N ≤ l.length := by have := tree_small hT.2 hx; omega
 clear h hx hr hT hch hn0 hN
 go_enter Try.func125, Try.ntmps125
 go_wp2_with fail
 go_loopw [5, 6, 7] (fun t5 t6 t7 W => ∃ (k next : Nat) (h : Int), t5 = .int .i64 (next : Int) ∧ t6 = .int .i64 h ∧ t7 = .int .i64 (k : Int) ∧ k ≤ N ∧ (h = 0 ∨ h = 1 ∨ h = 2 ∨ h = 3) ∧ Hid (chainE (endE l) k (a + 1) = next) ∧ Hid (blockR P l (endE l) (N - k) next h = r) ∧ a < next ∧ Below w.heap.size w W) (fun _ _ t7 _ => N - (intOf t7).toNat)
 case atStart => exact ⟨0, a + 1, 0, by go_num, rfl, rfl, Nat.zero_le _, .inl rfl, hide rfl, hide HR.out, by omega, Below.refl _ _⟩
 case round =>
   obtain ⟨k, next, h, rfl, rfl, rfl, hkN, hh, HC, HB, hna, hb⟩ := hrel
   rename World => W
   have HBW := hide hb
   have hc := HH.out.below hb
   obtain ⟨c0, c5, c6, c7⟩ := hc.cells
   obtain ⟨ad1, e1, hab1, -, -, -, -, -, q5⟩ := acs_row hc.s HX.out
   cases e1
   have HCW := hide hc
   rw [HN.out] at q5
   have u3 := IntWalk.i64_in ((k : Int) + 1) (by omega)
   clear hb hc
   by_cases hlt : k < N
   · have hltI : (k : Int) < (N : Int) := by omega
     have hnl : next < l.length := by rw [← HC.out]; exact HCH.out k hlt
     have hnL : (next : Int) < (l.length : Int) := by omega
     have hn0 : (0 : Int) ≤ (next : Int) := by omega
     obtain ⟨y, hy⟩ : ∃ y, l[next]? = some y := ⟨_, List.getElem?_eq_getElem hnl⟩
     have HY := hide hy
     obtain ⟨ad2, e2, hab2, p0, p1, p2, p3, p4, p5⟩ := acs_row HCW.out.s hy
     cases e2
     obtain ⟨e, he⟩ : ∃ e, endE l next = e := ⟨_, rfl⟩
     have ce : W.cell? ⟨ge, next, none⟩ = some (.int .i64 (e : Int)) := by rw [← he]; exact blk_int HCW.out.e (endsE_get (Nat.zero_le _) hnl)
     have hae : a < e := by rw [← he]; have := endE_ge (l := l) (j := next) (by omega); omega
     have HE := hide he
     have hgel := HCW.out.e.lt
     have hgll := HCW.out.k.lt
     have HGS := hide HCW.out.p.gs
     have hqg := HCW.out.p.gl
     obtain ⟨M, hM⟩ : ∃ M, N - k = M + 1 := ⟨N - k - 1, by omega⟩
     have HM := hide hM
     rw [hM] at HB
     obtain ⟨k0, a0, b0, cc0, d0, n0⟩ := y
     simp only at p0 p1 p2 p3 p4 p5
     have HBA := hide ((Below.refl W.heap.size W).alloc (Nat.le_refl _) (.cells #[.int .i64 k0, .int .i64 a0, .int .i64 b0, .int .i64 cc0, .int .i64 d0, .int .i64 n0] 49))
     rw [hqg] at c0
     clear hy he hM hqg hab1 hab2
     by_cases hs : 1 ≤ k0 ∧ k0 ≤ 16
     · have hsv := stands_two hs
       have HST := fun (W2 : World) => hide ((standsR_i W2 k0 2).mono (fun en w' hh => (⟨by rw [hh.1, hsv], hh.2⟩ : en = .returned (.bool true) ∧ W2 = w')))
       clear hsv
       by_cases h9 : k0 = 9
       · subst h9
         cases hq : fromV a0 0 ((P.gh.length : Int) - 1) with
         | false =>
           have HF := fun (W2 : World) (lo hi : Int) => hide ((to_i W2 a0 0 ((P.gh.length : Int) - 1)).mono (fun en w' hh => (⟨by rw [hh.1, hq], hh.2.symm⟩ : en = .returned (.bool false) ∧ w' = W2)))
           have HQ := hide hq
           clear hq
           have HRF := hide (show r = false by rw [← HB.out]; exact blockR_no HY.out (.inr (.inl ⟨by simp, HQ.out⟩)))
           go_wp2_with (go_at_call 127; refine (HST _).out.mono ?_; rintro en w1 ⟨rfl, rfl⟩)
           go_quiet ((go_at_call 79; exact Calls.quiet_of_same (HF _ 0 0).out))
           go_wp2_with fail
           try (go_quiet (fail); go_wp2_with fail)
           try (go_quiet (fail); go_wp2_with fail)
           go_ret
           exact ⟨by rw [HRF.out]; first | done | rfl, by first | exact bT HBW.out HBA.out | exact bU HBW.out HBA.out _⟩
         | true =>
           have HF := fun (W2 : World) (lo hi : Int) => hide ((to_i W2 a0 0 ((P.gh.length : Int) - 1)).mono (fun en w' hh => (⟨by rw [hh.1, hq], hh.2.symm⟩ : en = .returned (.bool true) ∧ w' = W2)))
           obtain ⟨adg, eg, hlg, hg0, hg1, hcg⟩ := gh_at (a := a0) HGS.out hq
           have HQ := hide hq
           rw [eg] at c0
           have hcG : ∀ o, (W.alloc o).cell? (adg.add a0.toNat) = some (.bool (ghV P.gh a0)) := fun o => (World.cell?_alloc_lt _ _ _ (by rw [add_block]; exact hlg)).trans hcg
           clear hq eg hlg
           cases hgv : ghV P.gh a0 with
           | true =>
             rw [hgv] at hcg
             have HGV := hide hgv
             simp only [hgv] at hcG
             clear hgv
             rcases hh with rfl | rfl | rfl | rfl
             · have HGO := hide (blockR_go (E := endE l) (m := M) HY.out (by simp) (fun hq => HQ.out) (show handR P _ 0 = some 2 by simp [handR, HGV.out]))
               go_wp2_with (go_at_call 127; refine (HST _).out.mono ?_; rintro en w1 ⟨rfl, rfl⟩)
               go_quiet ((go_at_call 79; exact Calls.quiet_of_same (HF _ 0 0).out))
               go_wp2_with fail
               try (go_quiet (fail); go_wp2_with fail)
               try (go_quiet (fail); go_wp2_with fail)
               go_roundw
               case rel =>
                 refine ⟨k + 1, e, 2, rfl, rfl, by go_num, by omega, by simp, hide ?_, hide ?_, hae, ?_⟩
                 · rw [chainE_succ, HC.out, HE.out]
                 · rw [← HB.out, HGO.out, HE.out]
                   congr 1
                   have := HM.out
                   omega
                 · first | exact bT HBW.out HBA.out | exact bU HBW.out HBA.out _
               case measure =>
                 simp only [intOf]
                 omega
             · have HRF := hide (show r = false by rw [← HB.out]; exact blockR_no HY.out (.inr (.inr (by simp [handR, HGV.out]))))
               go_wp2_with (go_at_call 127; refine (HST _).out.mono ?_; rintro en w1 ⟨rfl, rfl⟩)
               go_quiet ((go_at_call 79; exact Calls.quiet_of_same (HF _ 0 0).out))
               go_wp2_with fail
               try (go_quiet (fail); go_wp2_with fail)
               try (go_quiet (fail); go_wp2_with fail)
               go_ret
               exact ⟨by rw [HRF.out]; first | done | rfl, by first | exact bT HBW.out HBA.out | exact bU HBW.out HBA.out _⟩
             · have HRF := hide (show r = false by rw [← HB.out]; exact blockR_no HY.out (.inr (.inr (by simp [handR, HGV.out]))))
               go_wp2_with (go_at_call 127; refine (HST _).out.mono ?_; rintro en w1 ⟨rfl, rfl⟩)
               go_quiet ((go_at_call 79; exact Calls.quiet_of_same (HF _ 0 0).out))
               go_wp2_with fail
               try (go_quiet (fail); go_wp2_with fail)
               try (go_quiet (fail); go_wp2_with fail)
               go_ret
               exact ⟨by rw [HRF.out]; first | done | rfl, by first | exact bT HBW.out HBA.out | exact bU HBW.out HBA.out _⟩
             · have HRF := hide (show r = false by rw [← HB.out]; exact blockR_no HY.out (.inr (.inr (by simp [handR, HGV.out]))))
               go_wp2_with (go_at_call 127; refine (HST _).out.mono ?_; rintro en w1 ⟨rfl, rfl⟩)
               go_quiet ((go_at_call 79; exact Calls.quiet_of_same (HF _ 0 0).out))
               go_wp2_with fail
               try (go_quiet (fail); go_wp2_with fail)
               try (go_quiet (fail); go_wp2_with fail)
               go_ret
               exact ⟨by rw [HRF.out]; first | done | rfl, by first | exact bT HBW.out HBA.out | exact bU HBW.out HBA.out _⟩
           | false =>
             rw [hgv] at hcg
             have HGV := hide hgv
             simp only [hgv] at hcG
             clear hgv
             rcases hh with rfl | rfl | rfl | rfl
             · have HGO := hide (blockR_go (E := endE l) (m := M) HY.out (by simp) (fun hq => HQ.out) (show handR P _ 0 = some 1 by simp [handR, HGV.out]))
               go_wp2_with (go_at_call 127; refine (HST _).out.mono ?_; rintro en w1 ⟨rfl, rfl⟩)
               go_quiet ((go_at_call 79; exact Calls.quiet_of_same (HF _ 0 0).out))
               go_wp2_with fail
               try (go_quiet (fail); go_wp2_with fail)
               try (go_quiet (fail); go_wp2_with fail)
               go_roundw
               case rel =>
                 refine ⟨k + 1, e, 1, rfl, rfl, by go_num, by omega, by simp, hide ?_, hide ?_, hae, ?_⟩
                 · rw [chainE_succ, HC.out, HE.out]
                 · rw [← HB.out, HGO.out, HE.out]
                   congr 1
                   have := HM.out
                   omega
                 · first | exact bT HBW.out HBA.out | exact bU HBW.out HBA.out _
               case measure =>
                 simp only [intOf]
                 omega
             · have HRF := hide (show r = false by rw [← HB.out]; exact blockR_no HY.out (.inr (.inr (by simp [handR, HGV.out]))))
               go_wp2_with (go_at_call 127; refine (HST _).out.mono ?_; rintro en w1 ⟨rfl, rfl⟩)
               go_quiet ((go_at_call 79; exact Calls.quiet_of_same (HF _ 0 0).out))
               go_wp2_with fail
               try (go_quiet (fail); go_wp2_with fail)
               try (go_quiet (fail); go_wp2_with fail)
               go_ret
               exact ⟨by rw [HRF.out]; first | done | rfl, by first | exact bT HBW.out HBA.out | exact bU HBW.out HBA.out _⟩
             · have HRF := hide (show r = false by rw [← HB.out]; exact blockR_no HY.out (.inr (.inr (by simp [handR, HGV.out]))))
               go_wp2_with (go_at_call 127; refine (HST _).out.mono ?_; rintro en w1 ⟨rfl, rfl⟩)
               go_quiet ((go_at_call 79; exact Calls.quiet_of_same (HF _ 0 0).out))
               go_wp2_with fail
               try (go_quiet (fail); go_wp2_with fail)
               try (go_quiet (fail); go_wp2_with fail)
               go_ret
               exact ⟨by rw [HRF.out]; first | done | rfl, by first | exact bT HBW.out HBA.out | exact bU HBW.out HBA.out _⟩
             · have HRF := hide (show r = false by rw [← HB.out]; exact blockR_no HY.out (.inr (.inr (by simp [handR, HGV.out]))))
               go_wp2_with (go_at_call 127; refine (HST _).out.mono ?_; rintro en w1 ⟨rfl, rfl⟩)
               go_quiet ((go_at_call 79; exact Calls.quiet_of_same (HF _ 0 0).out))
               go_wp2_with fail
               try (go_quiet (fail); go_wp2_with fail)
               try (go_quiet (fail); go_wp2_with fail)
               go_ret
               exact ⟨by rw [HRF.out]; first | done | rfl, by first | exact bT HBW.out HBA.out | exact bU HBW.out HBA.out _⟩
       by_cases h10 : k0 = 10
       · subst h10
         cases hq : fromV a0 0 ((P.gh.length : Int) - 1) with
         | false =>
           have HF := fun (W2 : World) (lo hi : Int) => hide ((to_i W2 a0 0 ((P.gh.length : Int) - 1)).mono (fun en w' hh => (⟨by rw [hh.1, hq], hh.2.symm⟩ : en = .returned (.bool false) ∧ w' = W2)))
           have HQ := hide hq
           clear hq
           have HRF := hide (show r = false by rw [← HB.out]; exact blockR_no HY.out (.inr (.inl ⟨by simp, HQ.out⟩)))
           go_wp2_with (go_at_call 127; refine (HST _).out.mono ?_; rintro en w1 ⟨rfl, rfl⟩)
           go_quiet ((go_at_call 79; exact Calls.quiet_of_same (HF _ 0 0).out))
           go_wp2_with fail
           try (go_quiet (fail); go_wp2_with fail)
           try (go_quiet (fail); go_wp2_with fail)
           go_ret
           exact ⟨by rw [HRF.out]; first | done | rfl, by first | exact bT HBW.out HBA.out | exact bU HBW.out HBA.out _⟩
         | true =>
           have HF := fun (W2 : World) (lo hi : Int) => hide ((to_i W2 a0 0 ((P.gh.length : Int) - 1)).mono (fun en w' hh => (⟨by rw [hh.1, hq], hh.2.symm⟩ : en = .returned (.bool true) ∧ w' = W2)))
           obtain ⟨adg, eg, hlg, hg0, hg1, hcg⟩ := gh_at (a := a0) HGS.out hq
           have HQ := hide hq
           rw [eg] at c0
           have hcG : ∀ o, (W.alloc o).cell? (adg.add a0.toNat) = some (.bool (ghV P.gh a0)) := fun o => (World.cell?_alloc_lt _ _ _ (by rw [add_block]; exact hlg)).trans hcg
           clear hq eg hlg
           cases hgv : ghV P.gh a0 with
           | true =>
             rw [hgv] at hcg
             have HGV := hide hgv
             simp only [hgv] at hcG
             clear hgv
             rcases hh with rfl | rfl | rfl | rfl
             · have HRF := hide (show r = false by rw [← HB.out]; exact blockR_no HY.out (.inr (.inr (by simp [handR, HGV.out]))))
               go_wp2_with (go_at_call 127; refine (HST _).out.mono ?_; rintro en w1 ⟨rfl, rfl⟩)
               go_quiet ((go_at_call 79; exact Calls.quiet_of_same (HF _ 0 0).out))
               go_wp2_with fail
               try (go_quiet (fail); go_wp2_with fail)
               try (go_quiet (fail); go_wp2_with fail)
               go_ret
               exact ⟨by rw [HRF.out]; first | done | rfl, by first | exact bT HBW.out HBA.out | exact bU HBW.out HBA.out _⟩
             · have HRF := hide (show r = false by rw [← HB.out]; exact blockR_no HY.out (.inr (.inr (by simp [handR, HGV.out]))))
               go_wp2_with (go_at_call 127; refine (HST _).out.mono ?_; rintro en w1 ⟨rfl, rfl⟩)
               go_quiet ((go_at_call 79; exact Calls.quiet_of_same (HF _ 0 0).out))
               go_wp2_with fail
               try (go_quiet (fail); go_wp2_with fail)
               try (go_quiet (fail); go_wp2_with fail)
               go_ret
               exact ⟨by rw [HRF.out]; first | done | rfl, by first | exact bT HBW.out HBA.out | exact bU HBW.out HBA.out _⟩
             · have HGO := hide (blockR_go (E := endE l) (m := M) HY.out (by simp) (fun hq => HQ.out) (show handR P _ 2 = some 0 by simp [handR, HGV.out]))
               go_wp2_with (go_at_call 127; refine (HST _).out.mono ?_; rintro en w1 ⟨rfl, rfl⟩)
               go_quiet ((go_at_call 79; exact Calls.quiet_of_same (HF _ 0 0).out))
               go_wp2_with fail
               try (go_quiet (fail); go_wp2_with fail)
               try (go_quiet (fail); go_wp2_with fail)
               go_roundw
               case rel =>
                 refine ⟨k + 1, e, 0, rfl, rfl, by go_num, by omega, by simp, hide ?_, hide ?_, hae, ?_⟩
                 · rw [chainE_succ, HC.out, HE.out]
                 · rw [← HB.out, HGO.out, HE.out]
                   congr 1
                   have := HM.out
                   omega
                 · first | exact bT HBW.out HBA.out | exact bU HBW.out HBA.out _
               case measure =>
                 simp only [intOf]
                 omega
             · have HGO := hide (blockR_go (E := endE l) (m := M) HY.out (by simp) (fun hq => HQ.out) (show handR P _ 3 = some 0 by simp [handR, HGV.out]))
               go_wp2_with (go_at_call 127; refine (HST _).out.mono ?_; rintro en w1 ⟨rfl, rfl⟩)
               go_quiet ((go_at_call 79; exact Calls.quiet_of_same (HF _ 0 0).out))
               go_wp2_with fail
               try (go_quiet (fail); go_wp2_with fail)
               try (go_quiet (fail); go_wp2_with fail)
               go_roundw
               case rel =>
                 refine ⟨k + 1, e, 0, rfl, rfl, by go_num, by omega, by simp, hide ?_, hide ?_, hae, ?_⟩
                 · rw [chainE_succ, HC.out, HE.out]
                 · rw [← HB.out, HGO.out, HE.out]
                   congr 1
                   have := HM.out
                   omega
                 · first | exact bT HBW.out HBA.out | exact bU HBW.out HBA.out _
               case measure =>
                 simp only [intOf]
                 omega
           | false =>
             rw [hgv] at hcg
             have HGV := hide hgv
             simp only [hgv] at hcG
             clear hgv
             rcases hh with rfl | rfl | rfl | rfl
             · have HRF := hide (show r = false by rw [← HB.out]; exact blockR_no HY.out (.inr (.inr (by simp [handR, HGV.out]))))
               go_wp2_with (go_at_call 127; refine (HST _).out.mono ?_; rintro en w1 ⟨rfl, rfl⟩)
               go_quiet ((go_at_call 79; exact Calls.quiet_of_same (HF _ 0 0).out))
               go_wp2_with fail
               try (go_quiet (fail); go_wp2_with fail)
               try (go_quiet (fail); go_wp2_with fail)
               go_ret
               exact ⟨by rw [HRF.out]; first | done | rfl, by first | exact bT HBW.out HBA.out | exact bU HBW.out HBA.out _⟩
             · have HGO := hide (blockR_go (E := endE l) (m := M) HY.out (by simp) (fun hq => HQ.out) (show handR P _ 1 = some 0 by simp [handR, HGV.out]))
               go_wp2_with (go_at_call 127; refine (HST _).out.mono ?_; rintro en w1 ⟨rfl, rfl⟩)
               go_quiet ((go_at_call 79; exact Calls.quiet_of_same (HF _ 0 0).out))
               go_wp2_with fail
               try (go_quiet (fail); go_wp2_with fail)
               try (go_quiet (fail); go_wp2_with fail)
               go_roundw
               case rel =>
                 refine ⟨k + 1, e, 0, rfl, rfl, by go_num, by omega, by simp, hide ?_, hide ?_, hae, ?_⟩
                 · rw [chainE_succ, HC.out, HE.out]
                 · rw [← HB.out, HGO.out, HE.out]
                   congr 1
                   have := HM.out
                   omega
                 · first | exact bT HBW.out HBA.out | exact bU HBW.out HBA.out _
               case measure =>
                 simp only [intOf]
                 omega
             · have HRF := hide (show r = false by rw [← HB.out]; exact blockR_no HY.out (.inr (.inr (by simp [handR, HGV.out]))))
               go_wp2_with (go_at_call 127; refine (HST _).out.mono ?_; rintro en w1 ⟨rfl, rfl⟩)
               go_quiet ((go_at_call 79; exact Calls.quiet_of_same (HF _ 0 0).out))
               go_wp2_with fail
               try (go_quiet (fail); go_wp2_with fail)
               try (go_quiet (fail); go_wp2_with fail)
               go_ret
               exact ⟨by rw [HRF.out]; first | done | rfl, by first | exact bT HBW.out HBA.out | exact bU HBW.out HBA.out _⟩
             · have HRF := hide (show r = false by rw [← HB.out]; exact blockR_no HY.out (.inr (.inr (by simp [handR, HGV.out]))))
               go_wp2_with (go_at_call 127; refine (HST _).out.mono ?_; rintro en w1 ⟨rfl, rfl⟩)
               go_quiet ((go_at_call 79; exact Calls.quiet_of_same (HF _ 0 0).out))
               go_wp2_with fail
               try (go_quiet (fail); go_wp2_with fail)
               try (go_quiet (fail); go_wp2_with fail)
               go_ret
               exact ⟨by rw [HRF.out]; first | done | rfl, by first | exact bT HBW.out HBA.out | exact bU HBW.out HBA.out _⟩
       by_cases h11 : k0 = 11
       · subst h11
         have HQ : Hid (fromV a0 0 ((P.gh.length : Int) - 1) = true) ∨ True := .inr trivial
         rcases hh with rfl | rfl | rfl | rfl
         · have HRF := hide (show r = false by rw [← HB.out]; exact blockR_no HY.out (.inr (.inr (by simp [handR]))))
           go_wp2_with (go_at_call 127; refine (HST _).out.mono ?_; rintro en w1 ⟨rfl, rfl⟩)
           try (go_quiet (fail); go_wp2_with fail)
           try (go_quiet (fail); go_wp2_with fail)
           go_ret
           exact ⟨by rw [HRF.out]; first | done | rfl, by first | exact bT HBW.out HBA.out | exact bU HBW.out HBA.out _⟩
         · have HGO := hide (blockR_go (E := endE l) (m := M) HY.out (by simp) (by simp) (show handR P _ 1 = some 3 by simp [handR]))
           go_wp2_with (go_at_call 127; refine (HST _).out.mono ?_; rintro en w1 ⟨rfl, rfl⟩)
           try (go_quiet (fail); go_wp2_with fail)
           try (go_quiet (fail); go_wp2_with fail)
           go_roundw
           case rel =>
             refine ⟨k + 1, e, 3, rfl, rfl, by go_num, by omega, by simp, hide ?_, hide ?_, hae, ?_⟩
             · rw [chainE_succ, HC.out, HE.out]
             · rw [← HB.out, HGO.out, HE.out]
               congr 1
               have := HM.out
               omega
             · first | exact bT HBW.out HBA.out | exact bU HBW.out HBA.out _
           case measure =>
             simp only [intOf]
             omega
         · have HRF := hide (show r = false by rw [← HB.out]; exact blockR_no HY.out (.inr (.inr (by simp [handR]))))
           go_wp2_with (go_at_call 127; refine (HST _).out.mono ?_; rintro en w1 ⟨rfl, rfl⟩)
           try (go_quiet (fail); go_wp2_with fail)
           try (go_quiet (fail); go_wp2_with fail)
           go_ret
           exact ⟨by rw [HRF.out]; first | done | rfl, by first | exact bT HBW.out HBA.out | exact bU HBW.out HBA.out _⟩
         · have HRF := hide (show r = false by rw [← HB.out]; exact blockR_no HY.out (.inr (.inr (by simp [handR]))))
           go_wp2_with (go_at_call 127; refine (HST _).out.mono ?_; rintro en w1 ⟨rfl, rfl⟩)
           try (go_quiet (fail); go_wp2_with fail)
           try (go_quiet (fail); go_wp2_with fail)
           go_ret
           exact ⟨by rw [HRF.out]; first | done | rfl, by first | exact bT HBW.out HBA.out | exact bU HBW.out HBA.out _⟩
       by_cases h12 : k0 = 12
       · subst h12
         rcases hh with rfl | rfl | rfl | rfl
         · have HRF := hide (show r = false by rw [← HB.out]; exact blockR_no HY.out (.inr (.inr (by simp [handR]))))
           go_wp2_with (go_at_call 127; refine (HST _).out.mono ?_; rintro en w1 ⟨rfl, rfl⟩)
           try (go_quiet (fail); go_wp2_with fail)
           try (go_quiet (fail); go_wp2_with fail)
           go_ret
           exact ⟨by rw [HRF.out]; first | done | rfl, by first | exact bT HBW.out HBA.out | exact bU HBW.out HBA.out _⟩
         · have HRF := hide (show r = false by rw [← HB.out]; exact blockR_no HY.out (.inr (.inr (by simp [handR]))))
           go_wp2_with (go_at_call 127; refine (HST _).out.mono ?_; rintro en w1 ⟨rfl, rfl⟩)
           try (go_quiet (fail); go_wp2_with fail)
           try (go_quiet (fail); go_wp2_with fail)
           go_ret
           exact ⟨by rw [HRF.out]; first | done | rfl, by first | exact bT HBW.out HBA.out | exact bU HBW.out HBA.out _⟩
         · have HGO := hide (blockR_go (E := endE l) (m := M) HY.out (by simp) (by simp) (show handR P _ 2 = some 0 by simp [handR]))
           go_wp2_with (go_at_call 127; refine (HST _).out.mono ?_; rintro en w1 ⟨rfl, rfl⟩)
           try (go_quiet (fail); go_wp2_with fail)
           try (go_quiet (fail); go_wp2_with fail)
           go_roundw
           case rel =>
             refine ⟨k + 1, e, 0, rfl, rfl, by go_num, by omega, by simp, hide ?_, hide ?_, hae, ?_⟩
             · rw [chainE_succ, HC.out, HE.out]
             · rw [← HB.out, HGO.out, HE.out]
               congr 1
               have := HM.out
               omega
             · first | exact bT HBW.out HBA.out | exact bU HBW.out HBA.out _
           case measure =>
             simp only [intOf]
             omega
         · have HGO := hide (blockR_go (E := endE l) (m := M) HY.out (by simp) (by simp) (show handR P _ 3 = some 0 by simp [handR]))
           go_wp2_with (go_at_call 127; refine (HST _).out.mono ?_; rintro en w1 ⟨rfl, rfl⟩)
           try (go_quiet (fail); go_wp2_with fail)
           try (go_quiet (fail); go_wp2_with fail)
           go_roundw
           case rel =>
             refine ⟨k + 1, e, 0, rfl, rfl, by go_num, by omega, by simp, hide ?_, hide ?_, hae, ?_⟩
             · rw [chainE_succ, HC.out, HE.out]
             · rw [← HB.out, HGO.out, HE.out]
               congr 1
               have := HM.out
               omega
             · first | exact bT HBW.out HBA.out | exact bU HBW.out HBA.out _
           case measure =>
             simp only [intOf]
             omega
       have HK := hide (show 1 ≤ k0 ∧ k0 ≤ 16 ∧ k0 ≠ 9 ∧ k0 ≠ 10 ∧ k0 ≠ 11 ∧ k0 ≠ 12 from ⟨hs.1, hs.2, h9, h10, h11, h12⟩)
       have hb9 : (k0 == 9) = false := by simp [h9]
       have hb10 : (k0 == 10) = false := by simp [h10]
       have hb11 : (k0 == 11) = false := by simp [h11]
       have hb12 : (k0 == 12) = false := by simp [h12]
       clear hs
       by_cases hlo : k0 ≤ 8
       · have hlo2 : ¬ 9 ≤ k0 := by omega
         rcases hh with rfl | rfl | rfl | rfl
         · have HGO := hide (blockR_go (E := endE l) (m := M) HY.out ⟨HK.out.1, HK.out.2.1⟩ (by have := HK.out; rintro (h | h) <;> simp only at h <;> omega) (show handR P _ 0 = some 0 by exact handR_other (by have := HK.out; simp only; omega)))
           go_wp2_with (go_at_call 127; refine (HST _).out.mono ?_; rintro en w1 ⟨rfl, rfl⟩)
           try (go_quiet (fail); go_wp2_with fail)
           try (go_quiet (fail); go_wp2_with fail)
           go_roundw
           case rel =>
             refine ⟨k + 1, e, 0, rfl, rfl, by go_num, by omega, by simp, hide ?_, hide ?_, hae, ?_⟩
             · rw [chainE_succ, HC.out, HE.out]
             · rw [← HB.out, HGO.out, HE.out]
               congr 1
               have := HM.out
               omega
             · first | exact bT HBW.out HBA.out | exact bU HBW.out HBA.out _
           case measure =>
             simp only [intOf]
             omega
         · have HRF := hide (show r = false by rw [← HB.out]; exact blockR_no HY.out (.inr (.inr (handR_other_no (by have := HK.out; simp only; omega) (by omega)))))
           go_wp2_with (go_at_call 127; refine (HST _).out.mono ?_; rintro en w1 ⟨rfl, rfl⟩)
           try (go_quiet (fail); go_wp2_with fail)
           try (go_quiet (fail); go_wp2_with fail)
           go_ret
           exact ⟨by rw [HRF.out]; first | done | rfl, by first | exact bT HBW.out HBA.out | exact bU HBW.out HBA.out _⟩
         · have HRF := hide (show r = false by rw [← HB.out]; exact blockR_no HY.out (.inr (.inr (handR_other_no (by have := HK.out; simp only; omega) (by omega)))))
           go_wp2_with (go_at_call 127; refine (HST _).out.mono ?_; rintro en w1 ⟨rfl, rfl⟩)
           try (go_quiet (fail); go_wp2_with fail)
           try (go_quiet (fail); go_wp2_with fail)
           go_ret
           exact ⟨by rw [HRF.out]; first | done | rfl, by first | exact bT HBW.out HBA.out | exact bU HBW.out HBA.out _⟩
         · have HRF := hide (show r = false by rw [← HB.out]; exact blockR_no HY.out (.inr (.inr (handR_other_no (by have := HK.out; simp only; omega) (by omega)))))
           go_wp2_with (go_at_call 127; refine (HST _).out.mono ?_; rintro en w1 ⟨rfl, rfl⟩)
           try (go_quiet (fail); go_wp2_with fail)
           try (go_quiet (fail); go_wp2_with fail)
           go_ret
           exact ⟨by rw [HRF.out]; first | done | rfl, by first | exact bT HBW.out HBA.out | exact bU HBW.out HBA.out _⟩
       · have hlo2 : 9 ≤ k0 := by omega
         have hhi : ¬ k0 ≤ 12 := by have := HK.out; omega
         rcases hh with rfl | rfl | rfl | rfl
         · have HGO := hide (blockR_go (E := endE l) (m := M) HY.out ⟨HK.out.1, HK.out.2.1⟩ (by have := HK.out; rintro (h | h) <;> simp only at h <;> omega) (show handR P _ 0 = some 0 by exact handR_other (by have := HK.out; simp only; omega)))
           go_wp2_with (go_at_call 127; refine (HST _).out.mono ?_; rintro en w1 ⟨rfl, rfl⟩)
           try (go_quiet (fail); go_wp2_with fail)
           try (go_quiet (fail); go_wp2_with fail)
           go_roundw
           case rel =>
             refine ⟨k + 1, e, 0, rfl, rfl, by go_num, by omega, by simp, hide ?_, hide ?_, hae, ?_⟩
             · rw [chainE_succ, HC.out, HE.out]
             · rw [← HB.out, HGO.out, HE.out]
               congr 1
               have := HM.out
               omega
             · first | exact bT HBW.out HBA.out | exact bU HBW.out HBA.out _
           case measure =>
             simp only [intOf]
             omega
         · have HRF := hide (show r = false by rw [← HB.out]; exact blockR_no HY.out (.inr (.inr (handR_other_no (by have := HK.out; simp only; omega) (by omega)))))
           go_wp2_with (go_at_call 127; refine (HST _).out.mono ?_; rintro en w1 ⟨rfl, rfl⟩)
           try (go_quiet (fail); go_wp2_with fail)
           try (go_quiet (fail); go_wp2_with fail)
           go_ret
           exact ⟨by rw [HRF.out]; first | done | rfl, by first | exact bT HBW.out HBA.out | exact bU HBW.out HBA.out _⟩
         · have HRF := hide (show r = false by rw [← HB.out]; exact blockR_no HY.out (.inr (.inr (handR_other_no (by have := HK.out; simp only; omega) (by omega)))))
           go_wp2_with (go_at_call 127; refine (HST _).out.mono ?_; rintro en w1 ⟨rfl, rfl⟩)
           try (go_quiet (fail); go_wp2_with fail)
           try (go_quiet (fail); go_wp2_with fail)
           go_ret
           exact ⟨by rw [HRF.out]; first | done | rfl, by first | exact bT HBW.out HBA.out | exact bU HBW.out HBA.out _⟩
         · have HRF := hide (show r = false by rw [← HB.out]; exact blockR_no HY.out (.inr (.inr (handR_other_no (by have := HK.out; simp only; omega) (by omega)))))
           go_wp2_with (go_at_call 127; refine (HST _).out.mono ?_; rintro en w1 ⟨rfl, rfl⟩)
           try (go_quiet (fail); go_wp2_with fail)
           try (go_quiet (fail); go_wp2_with fail)
           go_ret
           exact ⟨by rw [HRF.out]; first | done | rfl, by first | exact bT HBW.out HBA.out | exact bU HBW.out HBA.out _⟩
     · have hsv := stands_two_no hs
       have HST := fun (W2 : World) => hide ((standsR_i W2 k0 2).mono (fun en w' hh => (⟨by rw [hh.1, hsv], hh.2⟩ : en = .returned (.bool false) ∧ W2 = w')))
       have HSV := hide hsv
       clear hsv hs
       have HRF := hide (show r = false by rw [← HB.out]; exact blockR_no HY.out (.inl HSV.out))
       go_wp2_with (go_at_call 127; refine (HST _).out.mono ?_; rintro en w1 ⟨rfl, rfl⟩)
       try (go_quiet (fail); go_wp2_with fail)
       try (go_quiet (fail); go_wp2_with fail)
       go_ret
       exact ⟨by rw [HRF.out]; first | done | rfl, by first | exact bT HBW.out HBA.out | exact bU HBW.out HBA.out _⟩
   · have hltI : ¬ (k : Int) < (N : Int) := by omega
     obtain rfl : k = N := by omega
     rw [Nat.sub_self, blockR_last] at HB
     go_wp2_with fail
     go_ret
     exact ⟨by rw [← HB.out, blk_dec]; first | done | rfl, HBW.out⟩
end Go.Proofs.Ytdpokdcendgfeaa
