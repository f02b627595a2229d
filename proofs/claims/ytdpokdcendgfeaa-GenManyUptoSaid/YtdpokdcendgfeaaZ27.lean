/- Several texts in one: The walk of the reference's code, the kinds that are left. The reference's code at every row of a tree. Conditions: those of each. -/
import Derived.Test.YtdpokdcendgfeaaZ26
import Derived.Test.YtdpokdcendgfeaaZ1
set_option linter.unusedSimpArgs false
set_option linter.unusedVariables false
set_option maxHeartbeats 40000000
namespace Go.Proofs.Ytdpokdcendgfeaa
open Go.RowKit
attribute [local go_sem] par parUpon
theorem par_calls {P : Program} {o : Oper} {a : Act} {w : World} {R : Value → World → Prop} (f : Nat) (xs : Array Operand) (ts : Array TypeId) (hop : o.op = Op.call { callee := Callee.value (Operand.func f), args := xs, argTypes := ts })
   (F : Func) (hF : P.funcs[f]? = some F) (hF1 : F.name ≠ "runtime.NumGoroutine") (hF2 : F.body ≠ none) (vs : Array Value) (hx : xs.map a.eval = vs) (hc : Calls P f vs w fun e w' => ∃ u, e = .returned u ∧ R u w') : par P o a w R := by
 obtain ⟨fv, hf⟩ : ∃ fv, a.eval (Operand.func f) = fv := ⟨_, rfl⟩
 have hf2 := hf
 simp only [Act.eval] at hf2
 subst hf2
 unfold par
 simp [execOp, hop, Go.resolve, invoke, hx, hf, Deferred.ofValue, callFunc, hF, hF1, hF2, Result.andThen, parUpon]
 exact hc
def kn28 (out : Value) (row : Nat) (b : Nat) (xk pk xa xb xc xd : Int) : Nat → Option Value
 | 0 => some out
 | 1 => some (.int .i64 (row : Int))
 | 2 => some (.pointer (some ⟨b, 0, none⟩))
 | 3 => some (.int .i64 xk)
 | 4 => some (.int .i64 pk)
 | 5 => some (.pointer (some ⟨b, 1, none⟩))
 | 6 => some (.int .i64 xa)
 | 7 => some (.pointer (some ⟨b, 2, none⟩))
 | 8 => some (.int .i64 xb)
 | 9 => some (.pointer (some ⟨b, 3, none⟩))
 | 10 => some (.int .i64 xc)
 | 11 => some (.pointer (some ⟨b, 4, none⟩))
 | 12 => some (.int .i64 xd)
 | 13 => some (.agg #[.int .i64 pk, .int .i64 xa, .int .i64 xb, .int .i64 xc, .int .i64 xd, .int .i64 (row : Int), .bool false])
 | _ => none
structure J28 (W w2 : World) (kn : Nat → Option Value) (cells : Array Value) (L : List Ln) (x : Ln) (S : Nat → Bool) (vs : Nat → Value) (w : World) : Prop where
 k : ∀ i c, kn i = some c → S i = true → vs i = c
 b : S 15 = false → Below W.heap.size W w
 g : S 14 = true → ∃ g, vs 14 = .slice (some ⟨g, 0, none⟩) 1 1 ∧ (S 15 = false → Blk w g 156 cells)
 o : S 15 = true → ∃ oa c N, vs 15 = .slice oa N c ∧ Wk w2 w (.slice oa N c) (L ++ [x]) []
 a : S 16 = true → vs 16 = vs 15
section
variable {W w2 w w' : World} {kn : Nat → Option Value} {cells : Array Value} {L : List Ln} {x : Ln} {S : Nat → Bool} {vs : Nat → Value} {u : Value} {j : Nat}
theorem J28.start (W w2 : World) (kn : Nat → Option Value) (cells : Array Value) (L : List Ln) (x : Ln) (vs : Nat → Value) (hkn : ∀ i, 17 ≤ i → kn i = none) : J28 W w2 kn cells L x (fun i => decide (17 ≤ i)) vs W.drew :=
 ⟨fun i c h1 h2 => (by
     have h3 : 17 ≤ i := by simpa using h2
     rw [hkn i h3] at h1
     exact absurd h1 (by simp)), fun _ => (Below.refl _ W).drew, fun h => absurd h (by decide), fun h => absurd h (by decide), fun h => absurd h (by decide)⟩
theorem J28.kn_up (h : J28 W w2 kn cells L x S vs w) (hj : ∀ c, kn j = some c → u = c) : ∀ i c, kn i = some c → upn S j true i = true → upn vs j u i = c := fun i c h1 h2 => by
 by_cases e : i = j
 · subst e
   rw [upn_eq]
   exact hj c h1
 · rw [upn_ne e] at h2 ⊢
   exact h.k i c h1 h2
theorem J28.step (h : J28 W w2 kn cells L x S vs w) (hS : S 15 = false) (hj : j < 14) (hk : kn j = some u) (hb : Below w.heap.size w w') : J28 W w2 kn cells L x (upn S j true) (upn vs j u) w' := by
 refine ⟨h.kn_up (fun c hc => by rw [hk] at hc; injection hc), fun _ => (h.b hS).trans (hb.mono (h.b hS).size), fun h1 => ?_, fun h1 => ?_, fun h1 => ?_⟩
 · rw [upn_ne (by omega)] at h1
   obtain ⟨g, h2, h3⟩ := h.g h1
   exact ⟨g, by rw [upn_ne (by omega)]; exact h2, fun _ => (h3 hS).below hb (h3 hS).lt⟩
 · rw [upn_ne (by omega), hS] at h1
   cases h1
 · rw [upn_ne (by omega)] at h1 ⊢
   rw [upn_ne (by omega)]
   exact h.a h1
theorem J28.made (h : J28 W w2 kn cells L x S vs w) (hS : S 15 = false) (hk : kn 14 = none) : J28 W w2 kn cells L x (upn S 14 true) (upn vs 14 (.slice (some ⟨w.heap.size, 0, none⟩) 1 1)) (w.alloc (.cells cells 156)) := by
 refine ⟨h.kn_up (fun c hc => by rw [hk] at hc; cases hc), fun _ => (h.b hS).alloc (h.b hS).size _, fun _ => ⟨_, upn_eq, fun _ => Blk.new w _ cells⟩, fun h1 => ?_, fun h1 => ?_⟩
 · rw [upn_ne (by omega), hS] at h1
   cases h1
 · rw [upn_ne (by omega)] at h1 ⊢
   rw [upn_ne (by omega)]
   exact h.a h1
theorem J28.app (h : J28 W w2 kn cells L x S vs w) (h16 : S 16 = false) (h14 : S 14 = true) (hk : kn 15 = none) {oa : Option Addr} {c N : Nat} (hw : Wk w2 w' (.slice oa N c) (L ++ [x]) []) : J28 W w2 kn cells L x (upn S 15 true) (upn vs 15 (.slice oa N c)) w' := by
 refine ⟨h.kn_up (fun c hc => by rw [hk] at hc; cases hc), fun h1 => ?_, fun h1 => ?_, fun _ => ⟨oa, c, N, upn_eq, hw⟩, fun h1 => ?_⟩
 · rw [upn_eq] at h1
   cases h1
 · obtain ⟨g, h2, _⟩ := h.g h14
   exact ⟨g, by rw [upn_ne (by omega)]; exact h2, fun h3 => by rw [upn_eq] at h3; cases h3⟩
 · rw [upn_ne (by omega), h16] at h1
   cases h1
theorem J28.last (h : J28 W w2 kn cells L x S vs w) (h15 : S 15 = true) (hk : kn 16 = none) (hu : u = vs 15) : J28 W w2 kn cells L x (upn S 16 true) (upn vs 16 u) w := by
 refine ⟨h.kn_up (fun c hc => by rw [hk] at hc; cases hc), fun h1 => ?_, fun h1 => ?_, fun h1 => ?_, fun _ => ?_⟩
 · rw [upn_ne (by omega), h15] at h1
   cases h1
 · rw [upn_ne (by omega)] at h1
   obtain ⟨g, h2, h3⟩ := h.g h1
   exact ⟨g, by rw [upn_ne (by omega)]; exact h2, fun h4 => by rw [upn_ne (by omega), h15] at h4; cases h4⟩
 · obtain ⟨oa, c, N, h2, h3⟩ := h.o h15
   exact ⟨oa, c, N, by rw [upn_ne (by omega)]; exact h2, h3⟩
 · rw [upn_eq, upn_ne (by omega)]
   exact hu
end
/-- the append in it -/
theorem par_wk {w0 w : World} {v : Value} {l : List Ln} {o : Oper} {a : Act} {R : Value → World → Prop} (h : Wk w0 w v l []) (s x : Operand)
   (hop : o.op = Op.call { callee := Callee.builtin Builtin.append, args := #[s, x], argTypes := #[153, 153] })
   (m : List Ln) (cells : Array Value) (g c : Nat) (hb : Blk w g 156 cells) (hs : a.eval s = v) (hx : a.eval x = .slice (some ⟨g, 0, none⟩) m.length c) (hc : cells.toList = lcs m) (hlm : l.length + m.length ≤ 9000000)
   (hR : ∀ oa c N w', Wk w0 w' (.slice oa N c) (l ++ m) [] → R (.slice oa N c) w') : par Try.prog o a w R := by
 obtain ⟨i3, hi3, hz0, hz1, hz2⟩ := info_parts3 infL
 have hcell : ∀ j u, (lcs m)[j]? = some u → w.cell? ((⟨g, 0, none⟩ : Addr).add j) = some u := fun j u hj => by
   have hadd : (⟨g, 0, none⟩ : Addr).add j = ⟨g, j, none⟩ := by unfold Addr.add; split <;> simp_all
   rw [hadd, hb.cell, ← Array.getElem?_toList, hc, hj]
 obtain ⟨v', w', hrun, h1, h2, _, _⟩ := run_append_own_at (P := Try.prog) w w0.heap.size 153 o.type 156 i3 _ 7 56 Try.underlying153 hi3 hz0 hz1 hz2 rfl (by decide) v l.length (lcs l) h.o ⟨g, 0, none⟩ m.length c (lcs m) (lcs_length m) hcell (lcs_one m) (by unfold maxLen; omega) (by omega) h.b.size
 have h3 : Lns w' w0.heap.size v' (l ++ m) := by unfold Lns; rw [List.length_append, lcs_append]; exact h1
 obtain ⟨oa, c', e⟩ := h3.slice
 have h4 : Wk w0 w' v' (l ++ m) [] := ⟨h3, h.b.trans (below_grow h2 (fun k hk => (h.o.lt k hk).1) h.b.size), fun p hp => by cases hp⟩
 rw [e] at h4 hrun
 exact par_append s x 153 hop v _ hs hx hrun (hR _ _ _ _ h4)
set_option maxRecDepth 100000 in
theorem code_other (w : World) (b : Nat) (ad : Addr) (c : Nat) (l : List Ac) (h : Wr w b ad c l) (i : Nat) (x : Ac) (hx : l[i]? = some x) (hk : x.k ≠ 1 ∧ x.k ≠ 2 ∧ x.k ≠ 3 ∧ x.k ≠ 5 ∧ x.k ≠ 25 ∧ x.k ≠ 37 ∧ x.k ≠ 38) (hx0 : 0 ≤ x.n) (hx1 : x.n ≤ (l.length : Int)) (sp : List (Nat × Nat)) (hks : kidsS l x.n.toNat (i + 1) = some sp) (ks : List Nat) (hsp : sp.map Prod.fst = ks) (G : Nat → List Ln) (hC : ∀ k ∈ ks, CodeAt w b k (G k)) (hn : ((ks.map G).flatten).length ≤ 1100000) :
   Calls Try.prog 112 #[.pointer (some ⟨b, 0, none⟩), .int .i64 (i : Int)] w (LnsTold ((ks.map G).flatten ++ [oneL i (plainL x.k) x.a x.b x.c x.d]) w) := by
 have HW := hide h
 have hil := (List.getElem?_eq_some_iff.1 hx).1
 have hi0 : (0 : Int) ≤ (i : Int) := by omega
 have hiL : (i : Int) < (l.length : Int) := by omega
 have ck := h.cell
 have hbl := h.k.lt
 obtain ⟨ad1, e1, hab, q0, q1, q2, q3, q4, q5⟩ := acs_row h.s hx
 cases e1
 have HKI := fun (W : World) (hb : Below w.heap.size w W) => hide (kidsL_i W ad c l (h.s.below hb) h.m i x sp hx hks hx0 hx1)
 have hkl : sp.length = (ks : List Nat).length := by rw [← hsp]; simp
 have hkb : (ks : List Nat).length ≤ 262144 := by have h1 := kidsS_count _ _ _ hks; have h2 := h.m.1; rw [← hkl]; omega
 have hkm : (sp.map fun r => (r.1 : Int)) = (ks : List Nat).map (fun k : Nat => (k : Int)) := by rw [← hsp]; simp
 rw [hkl, hkm] at HKI
 obtain ⟨xk, xa, xb, xc, xd, xn⟩ := x
 simp only at q0 q1 q2 q3 q4 q5 
 obtain ⟨k1, k2, k3, k5, k25, k37, k38⟩ := hk
 have hb1 := (Below.refl w.heap.size w).alloc (Nat.le_refl _) (.cells #[.int .i64 xk, .int .i64 xa, .int .i64 xb, .int .i64 xc, .int .i64 xd, .int .i64 xn] 49)
 have hk1 := Blk.new w 49 #[.int .i64 xk, .int .i64 xa, .int .i64 xb, .int .i64 xc, .int .i64 xd, .int .i64 xn]
 have HB1 := hide hb1
 have HK1 := hide hk1
 have HKI1 := HKI _ hb1
 have hs1 : w.heap.size < (w.alloc (.cells #[.int .i64 xk, .int .i64 xa, .int .i64 xb, .int .i64 xc, .int .i64 xd, .int .i64 xn] 49)).heap.size := by simp
 clear h hx hks hsp hkl hkm HKI hb1 hk1 hx0 hx1
 go_enter Try.func112, Try.ntmps112
 go_upto_region 3 with (go_at_call 156
                        with_reducible refine HKI1.out.mono ?_
                        rintro en w2 ⟨kv, rfl, hown, hb2⟩
                        have HB2 := hide (HB1.out.trans (hb2.mono HB1.out.size))
                        have hk2 := HK1.out.below hb2 HK1.out.lt
                        have HKA := hide (kids_at hown)
                        obtain ⟨oa, ca, rfl⟩ := own_slice hown
                        clear hown hb2)
 have x0 : w2.cell? ⟨w.heap.size, 0, none⟩ = some (.int .i64 xk) := by rw [hk2.cell]; rfl
 have x1 : w2.cell? ⟨w.heap.size, 1, none⟩ = some (.int .i64 xa) := by rw [hk2.cell]; rfl
 have x2 : w2.cell? ⟨w.heap.size, 2, none⟩ = some (.int .i64 xb) := by rw [hk2.cell]; rfl
 have x3 : w2.cell? ⟨w.heap.size, 3, none⟩ = some (.int .i64 xc) := by rw [hk2.cell]; rfl
 have x4 : w2.cell? ⟨w.heap.size, 4, none⟩ = some (.int .i64 xd) := by rw [hk2.cell]; rfl
 have hs2 := hk2.lt
 have HK2 := hide hk2
 have HW2 := hide (HW.out.below HB2.out)
 clear hk2 ck hab q0 q1 q2 q3 q4 q5 HK1 HB1 HKI1 hs1
 have b1 : (xk == 1) = false := by simp [k1]
 have b2 : (xk == 2) = false := by simp [k2]
 have b3 : (xk == 3) = false := by simp [k3]
 have b5 : (xk == 5) = false := by simp [k5]
 have b25 : (xk == 25) = false := by simp [k25]
 have b37 : (xk == 37) = false := by simp [k37]
 have b38 : (xk == 38) = false := by simp [k38]
 have HC := hide (fun k (hk : k ∈ ks) => (hC k hk).below HB2.out)
 have HNL := hide hn
 have hkl := kids_short HKA.out
 clear hC hn
 go_upto_region 22 with fail
 have HWK := hide (Wk.start (w0 := w2) (Lns.nil w2 w2.heap.size) (Below.refl _ _))
 go_wp2_with fail
 go_loopw [10, 11] (fun t10 t11 W => ∃ (j N : Nat) (oa : Option Addr) (c : Nat), t11 = .int .i64 (j : Int) ∧ t10 = .slice oa N c ∧ j ≤ ks.length ∧ Hid (N = (((ks.take j).map G).flatten).length) ∧ Wk w2 W (.slice oa N c) ((ks.take j).map G).flatten []) (fun _ t11 _ => ks.length - (intOf t11).toNat)
 case atStart => exact ⟨0, 0, none, 0, rfl, rfl, Nat.zero_le _, hide rfl, HWK.out⟩
 case round =>
   clear HWK
   obtain ⟨j, N, oo, co, rfl, rfl, hj, HN, hwk⟩ := hrel
   rename World => W
   have HWK := hide hwk
   have HB := hide hwk.b
   have u1 := IntWalk.i64_in ((j : Int) + 1) (by omega)
   clear hwk
   by_cases hlt : j < ks.length
   · have hltI : (j : Int) < (ks.length : Int) := by omega
     have hltN : decide (j < ks.length) = true := by simp [hlt]
     have hj0 : (0 : Int) ≤ (j : Int) := by omega
     obtain ⟨k, hk⟩ : ∃ k, ks[j]? = some k := ⟨_, List.getElem?_eq_getElem hlt⟩
     obtain ⟨-, adk, ek, hdk, qk⟩ := (HKA.out.below HB.out).get hk
     cases ek
     have HCK := hide ((HC.out k (List.mem_of_getElem? hk)).call HB.out)
     have HTK := hide (flatL_succ G hk)
     have hsz := HNL.out
     have hsz2 := flatL_le G ks (j + 1)
     rw [HTK.out, List.length_append] at hsz2
     have hsz3 : (((ks.take j).map G).flatten).length + (G k).length ≤ 1100000 := by omega
     have HSZ := hide hsz3
     clear hk hsz hsz2 hsz3 hdk
     obtain ⟨L, hL⟩ : ∃ L, ((ks.take j).map G).flatten = L := ⟨_, rfl⟩
     rw [hL] at HWK HTK HSZ HN
     clear hL
     go_wp2_with fail
     go_at_call 112
     refine HCK.out.mono ?_
     rintro en w4 ⟨o4, c4, rfl, hl, hb⟩
     have HW4 := hide (HWK.out.more hl hb)
     clear hl hb qk
     go_wp2_with (at_builtin
                  refine wk_own HW4.out rfl (.tmp 128) (.tmp 134) rfl (u := Value.slice o4 (G k).length c4) (m := G k) (by simp) rfl rfl (Nat.le_trans HSZ.out (by decide)) ?_
                  rintro o5 c5 N5 w5 HN5 hk
                  have HW5 := hide hk.drop
                  clear hk)
     go_roundw
     case rel => exact ⟨j + 1, N5, o5, c5, by go_num, rfl, by omega, by rw [HTK.out]; exact HN5, by rw [HTK.out]; exact HW5.out⟩
     case measure =>
       simp only [intOf]
       omega
   · have hltI : ¬ (j : Int) < (ks.length : Int) := by omega
     have hltN : decide (j < ks.length) = false := by simp; omega
     obtain rfl : j = ks.length := by omega
     rw [List.take_length] at HN HWK
     have y0 : W.cell? ⟨w.heap.size, 0, none⟩ = some (.int .i64 xk) := (HB.out.cell hs2).trans x0
     have y1 : W.cell? ⟨w.heap.size, 1, none⟩ = some (.int .i64 xa) := (HB.out.cell hs2).trans x1
     have y2 : W.cell? ⟨w.heap.size, 2, none⟩ = some (.int .i64 xb) := (HB.out.cell hs2).trans x2
     have y3 : W.cell? ⟨w.heap.size, 3, none⟩ = some (.int .i64 xc) := (HB.out.cell hs2).trans x3
     have y4 : W.cell? ⟨w.heap.size, 4, none⟩ = some (.int .i64 xd) := (HB.out.cell hs2).trans x4
     have hsW := Nat.lt_of_lt_of_le hs2 HB.out.size
     go_upto_region 28 with fail
     have HL9 := hide (show (((ks.take ks.length).map G).flatten).length ≤ 1100000 by rw [List.take_length]; exact HNL.out)
     clear hkl
     obtain ⟨L, hL⟩ : ∃ L, (ks.map G).flatten = L := ⟨_, rfl⟩
     have HLL := hide hL
     have HNL2 := HNL.out
     rw [hL] at HWK HN HNL2 ⊢
     have HN2 := hide HNL2
     clear hL HNL2
     obtain ⟨pk, hpk⟩ : ∃ pk, plainL xk = pk := ⟨_, rfl⟩
     have HPK := hide hpk
     have HP1 := hide (fun (X : World) => (plainL_i X xk).mono (fun e w' hh => (⟨by rw [hh.1, hpk], hh.2⟩ : e = .returned (.int .i64 pk) ∧ Below X.heap.size X w')))
     rw [hpk]
     clear hpk x0 x1 x2 x3 x4
     refine wp_region_par (J28 W w2 (kn28 (.slice oo N co) i w.heap.size xk pk xa xb xc xd) #[.int .i64 pk, .int .i64 xa, .int .i64 xb, .int .i64 xc, .int .i64 xd, .int .i64 (i : Int), .bool false] L (oneL i pk xa xb xc xd)) [[], [], [], [2], [2, 3], [], [5], [], [7], [], [9], [], [11], [1, 2, 3, 4, 5, 6, 7, 8, 9, 10, 11, 12], [1, 2, 3, 4, 5, 6, 7, 8, 9, 10, 11, 12, 13], [0, 1, 2, 3, 4, 5, 6, 7, 8, 9, 10, 11, 12, 13, 14], [0, 1, 2, 3, 4, 5, 6, 7, 8, 9, 10, 11, 12, 13, 14, 15]] (by kernel_rfl) (by kernel_rfl) (fun vs => J28.start W w2 _ _ _ _ vs (fun i hi => by match i, hi with | _ + 17, _ => rfl)) (fun vs => ?_)
     refine wpPar_step0 rfl (fun S w' hS hA hD hJ R hR => ?_) (fun K hK => ?_)
     · have h15 : S 15 = false := hD 15 (by decide) (by decide)
       go_simp
       exact hR _ _ (hJ.step h15 (by decide) rfl (Below.refl _ _))
     go_simp
     refine hK _ ?_
     clear hK K
     refine wpPar_step0 rfl (fun S w' hS hA hD hJ R hR => ?_) (fun K hK => ?_)
     · have h15 : S 15 = false := hD 15 (by decide) (by decide)
       go_simp
       exact hR _ _ (hJ.step h15 (by decide) rfl (Below.refl _ _))
     go_simp
     refine hK _ ?_
     clear hK K
     refine wpPar_step0 rfl (fun S w' hS hA hD hJ R hR => ?_) (fun K hK => ?_)
     · have h15 : S 15 = false := hD 15 (by decide) (by decide)
       go_simp
       exact hR _ _ (hJ.step h15 (by decide) rfl (Below.refl _ _))
     go_simp
     refine hK _ ?_
     clear hK K
     refine wpPar_step0 rfl (fun S w' hS hA hD hJ R hR => ?_) (fun K hK => ?_)
     · have h15 : S 15 = false := hD 15 (by decide) (by decide)
       have k2 : vs 2 = _ := hJ.k 2 _ rfl (hA 2 (by decide))
       have hc := ((hJ.b h15).cell (p := ⟨w.heap.size, 0, none⟩) hsW).trans y0
       simp only [k2]
       go_simp
       exact hR _ _ (hJ.step h15 (by decide) rfl (Below.refl _ _))
     go_simp
     refine hK _ ?_
     clear hK K
     refine wpPar_step0 rfl (fun S w' hS hA hD hJ R hR => ?_) (fun K hK => ?_)
     · have h15 : S 15 = false := hD 15 (by decide) (by decide)
       have k3 : vs 3 = _ := hJ.k 3 _ rfl (hA 3 (by decide))
       have hfin := (HP1.out w').mono (fun en w'' hh => show ∃ u, en = .returned u ∧ R u w'' from ⟨_, hh.1, hR _ _ (hJ.step h15 (by decide) rfl hh.2)⟩)
       refine par_calls 161 #[.tmp 143] #[3] (by rfl) Try.f161 Try.func161 (by decide) (by unfold Try.f161; simp) #[.int .i64 xk] ?_ hfin
       simp [Act.eval, Act.put, k3]
     go_simp
     refine hK _ ?_
     clear hK K
     refine wpPar_step0 rfl (fun S w' hS hA hD hJ R hR => ?_) (fun K hK => ?_)
     · have h15 : S 15 = false := hD 15 (by decide) (by decide)
       go_simp
       exact hR _ _ (hJ.step h15 (by decide) rfl (Below.refl _ _))
     go_simp
     refine hK _ ?_
     clear hK K
     refine wpPar_step0 rfl (fun S w' hS hA hD hJ R hR => ?_) (fun K hK => ?_)
     · have h15 : S 15 = false := hD 15 (by decide) (by decide)
       have k5 : vs 5 = _ := hJ.k 5 _ rfl (hA 5 (by decide))
       have hc := ((hJ.b h15).cell (p := ⟨w.heap.size, 1, none⟩) hsW).trans y1
       simp only [k5]
       go_simp
       exact hR _ _ (hJ.step h15 (by decide) rfl (Below.refl _ _))
     go_simp
     refine hK _ ?_
     clear hK K
     refine wpPar_step0 rfl (fun S w' hS hA hD hJ R hR => ?_) (fun K hK => ?_)
     · have h15 : S 15 = false := hD 15 (by decide) (by decide)
       go_simp
       exact hR _ _ (hJ.step h15 (by decide) rfl (Below.refl _ _))
     go_simp
     refine hK _ ?_
     clear hK K
     refine wpPar_step0 rfl (fun S w' hS hA hD hJ R hR => ?_) (fun K hK => ?_)
     · have h15 : S 15 = false := hD 15 (by decide) (by decide)
       have k7 : vs 7 = _ := hJ.k 7 _ rfl (hA 7 (by decide))
       have hc := ((hJ.b h15).cell (p := ⟨w.heap.size, 2, none⟩) hsW).trans y2
       simp only [k7]
       go_simp
       exact hR _ _ (hJ.step h15 (by decide) rfl (Below.refl _ _))
     go_simp
     refine hK _ ?_
     clear hK K
     refine wpPar_step0 rfl (fun S w' hS hA hD hJ R hR => ?_) (fun K hK => ?_)
     · have h15 : S 15 = false := hD 15 (by decide) (by decide)
       go_simp
       exact hR _ _ (hJ.step h15 (by decide) rfl (Below.refl _ _))
     go_simp
     refine hK _ ?_
     clear hK K
     refine wpPar_step0 rfl (fun S w' hS hA hD hJ R hR => ?_) (fun K hK => ?_)
     · have h15 : S 15 = false := hD 15 (by decide) (by decide)
       have k9 : vs 9 = _ := hJ.k 9 _ rfl (hA 9 (by decide))
       have hc := ((hJ.b h15).cell (p := ⟨w.heap.size, 3, none⟩) hsW).trans y3
       simp only [k9]
       go_simp
       exact hR _ _ (hJ.step h15 (by decide) rfl (Below.refl _ _))
     go_simp
     refine hK _ ?_
     clear hK K
     refine wpPar_step0 rfl (fun S w' hS hA hD hJ R hR => ?_) (fun K hK => ?_)
     · have h15 : S 15 = false := hD 15 (by decide) (by decide)
       go_simp
       exact hR _ _ (hJ.step h15 (by decide) rfl (Below.refl _ _))
     go_simp
     refine hK _ ?_
     clear hK K
     refine wpPar_step0 rfl (fun S w' hS hA hD hJ R hR => ?_) (fun K hK => ?_)
     · have h15 : S 15 = false := hD 15 (by decide) (by decide)
       have k11 : vs 11 = _ := hJ.k 11 _ rfl (hA 11 (by decide))
       have hc := ((hJ.b h15).cell (p := ⟨w.heap.size, 4, none⟩) hsW).trans y4
       simp only [k11]
       go_simp
       exact hR _ _ (hJ.step h15 (by decide) rfl (Below.refl _ _))
     go_simp
     refine hK _ ?_
     clear hK K
     refine wpPar_step0 rfl (fun S w' hS hA hD hJ R hR => ?_) (fun K hK => ?_)
     · have h15 : S 15 = false := hD 15 (by decide) (by decide)
       have k1 : vs 1 = _ := hJ.k 1 _ rfl (hA 1 (by decide))
       have k4 : vs 4 = _ := hJ.k 4 _ rfl (hA 4 (by decide))
       have k6 : vs 6 = _ := hJ.k 6 _ rfl (hA 6 (by decide))
       have k8 : vs 8 = _ := hJ.k 8 _ rfl (hA 8 (by decide))
       have k10 : vs 10 = _ := hJ.k 10 _ rfl (hA 10 (by decide))
       have k12 : vs 12 = _ := hJ.k 12 _ rfl (hA 12 (by decide))
       have hfin := (one_v w' i pk xa xb xc xd).mono (fun en w'' hh => show ∃ u, en = .returned u ∧ R u w'' from ⟨_, hh.1, hR _ _ (hJ.step h15 (by decide) rfl hh.2)⟩)
       refine par_calls 113 #[.tmp 141, .tmp 144, .tmp 146, .tmp 148, .tmp 150, .tmp 152] #[3, 3, 3, 3, 3, 3] (by rfl) Try.f113 Try.func113 (by decide) (by unfold Try.f113; simp) #[.int .i64 (i : Int), .int .i64 pk, .int .i64 xa, .int .i64 xb, .int .i64 xc, .int .i64 xd] ?_ hfin
       simp [Act.eval, Act.put, k1, k4, k6, k8, k10, k12]
     go_simp
     refine hK _ ?_
     clear hK K
     refine wpPar_step0 rfl (fun S w' hS hA hD hJ R hR => ?_) (fun K hK => ?_)
     · have h15 : S 15 = false := hD 15 (by decide) (by decide)
       have k13 : vs 13 = _ := hJ.k 13 _ rfl (hA 13 (by decide))
       have hfin := hR _ _ (hJ.made h15 rfl)
       simp only [k13]
       go_simp
       exact hfin
     go_simp
     refine hK _ ?_
     clear hK K
     refine wpPar_step0 rfl (fun S w' hS hA hD hJ R hR => ?_) (fun K hK => ?_)
     · have h16 : S 16 = false := hD 16 (by decide) (by decide)
       have k0 : vs 0 = _ := hJ.k 0 _ rfl (hA 0 (by decide))
       have h14 := hA 14 (by decide)
       obtain ⟨g, e14, hb14⟩ := hJ.g h14
       exact par_wk (HWK.out.below (hJ.b hS)) (.tmp 140) (.tmp 154) (by rfl) [oneL i pk xa xb xc xd] #[.int .i64 pk, .int .i64 xa, .int .i64 xb, .int .i64 xc, .int .i64 xd, .int .i64 (i : Int), .bool false] g 1 (hb14 hS) (by simp [Act.eval, Act.put, k0]) (by simp [Act.eval, Act.put, e14]) rfl (Nat.le_trans (Nat.succ_le_succ HN2.out) (by decide)) (fun oa c N w'' hw => hR _ _ (hJ.app h16 h14 rfl hw))
     go_simp
     refine hK _ ?_
     clear hK K
     refine wpPar_step0 rfl (fun S w' hS hA hD hJ R hR => ?_) (fun K hK => ?_)
     · have h15 := hA 15 (by decide)
       go_simp
       exact hR _ _ (hJ.last h15 rfl rfl)
     go_simp
     refine hK _ ?_
     clear hK K
     refine wpPar_nil (fun w7 hJ => ?_)
     obtain ⟨o9, c9, N9, e15, hwk9⟩ := hJ.o rfl
     have e16 := hJ.a rfl
     rw [e15] at e16
     have HWF := hide hwk9
     clear hJ hwk9 e15
     simp only [e16]
     clear e16
     go_wp2_with fail
     go_ret
     exact LnsTold.down (HWF.out.told (by rw [HLL.out, HPK.out])) HB2.out
end Go.Proofs.Ytdpokdcendgfeaa
namespace Go.Proofs.Ytdpokdcendgfeaa
open Go.RowKit
theorem code_all {P : Pl} {l : List Ac} : ∀ f, CodeAll P l f
 | 0 => fun w b ad c what i e hw h h5 => h.elim
 | f + 1 => fun w b ad c what i e hw h h5 => by
   have IH := code_all (P := P) (l := l) f
   have hl := hw.m.1
   have hlen := ln_len h h5
   obtain ⟨x, hx⟩ : ∃ x, l[i]? = some x := by obtain ⟨x, sp, hx, _⟩ := h; exact ⟨x, hx⟩
   have hle := wf_le _ _ _ _ h
   obtain ⟨sp, hm, hv, h0, hnl, hn, hkids, hks, hwl, hspl⟩ := wf_inv h hx
   obtain ⟨k0, hk0⟩ : ∃ k0, (l[i + 1]?.map Ac.k).getD 0 = k0 := ⟨_, rfl⟩
   rw [hk0] at hkids hwl
   have hkk := mayV_kind hm h5
   have hkc := kidsC_of hks
   have hL := lnC_succ l f i x hx
   rw [hkc] at hL
   have HCA : ∀ {what' : Int} {k e' : Nat}, Wf P l f what' k e' → (what' ≠ 5 ∧ what' ≠ -1) → CodeAt w b k (lnC l f k) := fun g hg w' hb => IH w' b ad c _ _ _ (hw.below hb) g hg
   have HLN : ∀ {what' : Int} {k e' : Nat}, Wf P l f what' k e' → (what' ≠ 5 ∧ what' ≠ -1) → (lnC l f k).length ≤ 1100000 := fun g hg => by
     have h1 := ln_len g hg
     have h2 := wf_le _ _ _ _ g
     omega
   have HCL : (∀ r ∈ sp, ∃ w, (w ≠ 5 ∧ w ≠ -1) ∧ Wf P l f w r.1 r.2) → ∀ k ∈ sp.map Prod.fst, CodeAt w b k (lnC l f k) := fun hh k hk => by
     obtain ⟨r, hr, rfl⟩ := List.mem_map.1 hk
     obtain ⟨w9, h9, h8⟩ := hh r hr
     exact HCA h8 h9
   rw [hL] at hlen ⊢
   by_cases h1 : x.k = 1
   · rw [if_neg (by omega), if_neg (by omega), if_neg (by omega), if_neg (by omega), if_neg (by omega), if_neg (by omega), if_pos h1] at hlen ⊢
     refine code_block w b ad c l hw i x hx h1 h0 hnl sp hks _ rfl _ (HCL (fun r hr => ?_)) (by omega)
     obtain ⟨w9, hw1, hw2⟩ := kids_all _ _ _ _ hkids r hr
     refine ⟨w9, ?_, hw2⟩
     unfold wantsV at hw1
     rw [if_pos h1] at hw1
     have := (List.mem_replicate.1 hw1).2
     omega
   by_cases h2 : x.k = 2
   · rw [if_pos h2] at ⊢
     have hn2 := hn (by omega)
     by_cases h3 : x.n = 3
     · have hwv : wantsV x k0 = [3, 1, 1] := by unfold wantsV; rw [if_neg (by omega), if_neg (by omega)]; unfold kidsV; rw [if_pos h2, if_pos h3]
       rw [hwv] at hkids
       obtain ⟨j, k, rfl, g1, g2, g3⟩ := kids_three hkids
       exact code_if3 w b ad c l hw i x hx h2 h0 hnl _ hks _ _ _ rfl _ _ _ (HCA g1 (by omega)) (HLN g1 (by omega)) (HCA g2 (by omega)) (HLN g2 (by omega)) (HCA g3 (by omega)) (HLN g3 (by omega))
     · have hwv : wantsV x k0 = [3, 1] := by unfold wantsV; rw [if_neg (by omega), if_neg (by omega)]; unfold kidsV; rw [if_pos h2, if_neg h3]
       rw [hwv] at hkids
       obtain ⟨j, rfl, g1, g2⟩ := kids_two hkids
       exact code_if2 w b ad c l hw i x hx h2 h0 hnl _ hks _ _ rfl _ _ (HCA g1 (by omega)) (HLN g1 (by omega)) (HCA g2 (by omega)) (HLN g2 (by omega))
   by_cases h3 : x.k = 3
   · rw [if_neg h2, if_pos h3] at ⊢
     have hwv : wantsV x k0 = [3, 1] := by unfold wantsV; rw [if_neg (by omega), if_neg (by omega)]; unfold kidsV; rw [if_neg h2, if_pos h3]
     rw [hwv] at hkids
     obtain ⟨j, rfl, g1, g2⟩ := kids_two hkids
     exact code_loop w b ad c l hw i x hx h3 h0 hnl _ hks _ _ rfl _ _ (HCA g1 (by omega)) (HLN g1 (by omega)) (HCA g2 (by omega)) (HLN g2 (by omega))
   by_cases h5' : x.k = 5
   · rw [if_neg h2, if_neg h3, if_pos h5'] at ⊢
     have hwv : wantsV x k0 = [5, 2] := by unfold wantsV; rw [if_neg (by omega), if_neg (by omega)]; unfold kidsV; rw [if_neg (by omega), if_neg (by omega), if_neg (by omega), if_pos (by omega)]
     rw [hwv] at hkids
     obtain ⟨j, rfl, g1, g2⟩ := kids_two hkids
     obtain ⟨y, hy⟩ : ∃ y, l[i + 1]? = some y := by
       have := wf_le _ _ _ _ g1
       exact ⟨_, List.getElem?_eq_getElem (by omega)⟩
     have := code_mark w b ad c l hw i x hx h5' h0 hnl _ hks _ _ rfl y hy _ (HCA g2 (by omega)) (HLN g2 (by omega))
     simpa [hy] using this
   by_cases h25 : x.k = 25
   · rw [if_neg h2, if_neg h3, if_neg h5', if_pos h25] at ⊢
     have hwv : wantsV x k0 = [5] := by unfold wantsV; rw [if_neg (by omega), if_neg (by omega)]; unfold kidsV; rw [if_neg (by omega), if_neg (by omega), if_neg (by omega), if_neg (by omega), if_pos (by omega)]
     rw [hwv] at hkids
     obtain ⟨rfl, g1⟩ := kids_one hkids
     obtain ⟨y, hy⟩ : ∃ y, l[i + 1]? = some y := by
       have := wf_le _ _ _ _ g1
       exact ⟨_, List.getElem?_eq_getElem (by omega)⟩
     have := code_tag w b ad c l hw i x hx h25 h0 hnl _ hks _ rfl y hy
     simpa [hy] using this
   by_cases h37 : x.k = 37
   · rw [if_neg h2, if_neg h3, if_neg h5', if_neg h25, if_pos h37] at ⊢
     have hwv : wantsV x k0 = [3, 3] := by unfold wantsV; rw [if_neg (by omega), if_neg (by omega)]; unfold kidsV; rw [if_neg (by omega), if_neg (by omega), if_neg (by omega), if_neg (by omega), if_neg (by omega), if_neg (by omega), if_neg (by omega), if_neg (by omega), if_pos (by omega)]
     rw [hwv] at hkids
     obtain ⟨j, rfl, g1, g2⟩ := kids_two hkids
     exact code_and w b ad c l hw i x hx h37 h0 hnl _ hks _ _ rfl _ _ (HCA g1 (by omega)) (HLN g1 (by omega)) (HCA g2 (by omega)) (HLN g2 (by omega))
   by_cases h38 : x.k = 38
   · rw [if_neg h2, if_neg h3, if_neg h5', if_neg h25, if_neg h37, if_pos h38] at ⊢
     have hwv : wantsV x k0 = [3, 3] := by unfold wantsV; rw [if_neg (by omega), if_neg (by omega)]; unfold kidsV; rw [if_neg (by omega), if_neg (by omega), if_neg (by omega), if_neg (by omega), if_neg (by omega), if_neg (by omega), if_neg (by omega), if_neg (by omega), if_pos (by omega)]
     rw [hwv] at hkids
     obtain ⟨j, rfl, g1, g2⟩ := kids_two hkids
     exact code_or w b ad c l hw i x hx h38 h0 hnl _ hks _ _ rfl _ _ (HCA g1 (by omega)) (HLN g1 (by omega)) (HCA g2 (by omega)) (HLN g2 (by omega))
   rw [if_neg h2, if_neg h3, if_neg h5', if_neg h25, if_neg h37, if_neg h38, if_neg h1] at hlen ⊢
   rw [List.length_append] at hlen
   refine code_other w b ad c l hw i x hx ⟨h1, h2, h3, h5', h25, h37, h38⟩ h0 hnl sp hks _ rfl _ (HCL (fun r hr => ?_)) (by omega)
   by_cases h34 : x.k = 34
   · have hwv : wantsV x k0 = [4, typeV k0] := by unfold wantsV; rw [if_neg h1, if_pos h34]
     rw [hwv] at hkids
     obtain ⟨j, rfl, g1, g2⟩ := kids_two hkids
     have := typeV_first g1
     rw [hk0] at this
     simp only [List.mem_cons, List.not_mem_nil, or_false] at hr
     rcases hr with rfl | rfl
     · exact ⟨4, by decide, g1⟩
     · exact ⟨_, this, g2⟩
   · obtain ⟨w9, hw1, hw2⟩ := kids_all _ _ _ _ hkids r hr
     refine ⟨w9, ?_, hw2⟩
     simp only [wantsV, if_neg h1, if_neg h34] at hw1
     unfold kidsV at hw1
     (repeat' split at hw1) <;> simp at hw1 <;> omega
end Go.Proofs.Ytdpokdcendgfeaa
