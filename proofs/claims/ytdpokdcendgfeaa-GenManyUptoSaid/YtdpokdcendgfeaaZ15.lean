/- Several texts in one: The walk of lendActs. The walk of law 14's known. The walk of law 14's large. LendPlan: words, and its region that draws its order. The walk of LendPlan. Conditions: those of each. -/
import Derived.Test.YtdpokdcendgfeaaZ14
import Derived.Test.YtdpokdcendgfeaaZ12
import Derived.Test.YtdpokdcendgfeaaZ13
set_option linter.unusedSimpArgs false
set_option linter.unusedVariables false
set_option maxHeartbeats 40000000
namespace Go.Proofs.Ytdpokdcendgfeaa
open Go.RowKit
/-- the marks behind acts that are lent, j of them laid -/
def markA (n j : Nat) : List Ac := (List.range 9).map fun (k : Nat) => if k < j then ⟨-9, (n : Int) + (k : Int), 0, 0, 0, 0⟩ else ⟨0, 0, 0, 0, 0, 0⟩
/-- acts that are lent, and what lies behind them -/
def lendA (l : List Ac) : List Ac := l ++ markA l.length 9
theorem acs_append (l l' : List Ac) : acs (l ++ l') = acs l ++ acs l' := by simp [acs]
theorem markA_step (l : List Ac) (j : Nat) (hj : j < 9) : (l ++ markA l.length j).set (l.length + j) ⟨-9, (l.length : Int) + (j : Int), 0, 0, 0, 0⟩ = l ++ markA l.length (j + 1) := by
 rw [List.set_append, if_neg (by omega), Nat.add_sub_cancel_left]
 congr 1
 apply List.ext_getElem?
 intro k
 unfold markA
 rw [List.getElem?_set]
 by_cases hk : k < 9
 · rw [List.getElem?_map, List.getElem?_map, List.getElem?_range hk]
   by_cases h1 : j = k
   · subst h1
     simp [hk]
   · rw [if_neg h1]
     simp only [Option.map_some]
     by_cases h2 : k < j
     · rw [if_pos h2, if_pos (by omega)]
     · rw [if_neg h2, if_neg (by omega)]
 · rw [List.getElem?_eq_none (by simp; omega), List.getElem?_eq_none (by simp; omega)]
   simp
   omega
theorem acs_set : ∀ {l : List Ac} {i : Nat} {x : Ac}, i < l.length → ((((((acs l).toArray.setIfInBounds (i * 6) (.int .i64 x.k)).setIfInBounds (i * 6 + 1) (.int .i64 x.a)).setIfInBounds (i * 6 + 2) (.int .i64 x.b)).setIfInBounds (i * 6 + 3) (.int .i64 x.c)).setIfInBounds (i * 6 + 4) (.int .i64 x.d)).setIfInBounds (i * 6 + 5) (.int .i64 x.n) = (acs (l.set i x)).toArray
 | [], i, x, h => by simp at h
 | y :: l, 0, x, h => by
   simp [acs, Ac.cells]
 | y :: l, i + 1, x, h => by
   have ih := acs_set (l := l) (i := i) (x := x) (by simpa using h)
   have e : ∀ z : List Ac, acs (y :: z) = y.cells ++ acs z := fun z => by simp [acs]
   have hl : y.cells.length = 6 := rfl
   rw [List.set_cons_succ, e, e]
   have ih2 := congrArg Array.toList ih
   simp only [Array.toList_setIfInBounds] at ih2
   rw [← ih2]
   apply Array.ext'
   simp only [Array.toList_setIfInBounds]
   have sh : ∀ (z : List Value) (j : Nat) (v : Value), (y.cells ++ z).set ((i + 1) * 6 + j) v = y.cells ++ z.set (i * 6 + j) v := fun z j v => by
     rw [List.set_append, if_neg (by rw [hl]; omega), hl, show (i + 1) * 6 + j - 6 = i * 6 + j by omega]
   have h0 := sh (acs l) 0 (.int .i64 x.k)
   simp only [Nat.add_zero] at h0
   rw [h0, sh, sh, sh, sh, sh]
theorem make_acts (w : World) (n : Nat) (h : n ≤ 2097152) : (Instr.makeSlice 26 (.int .i64 (n : Int)) (.int .i64 (n : Int))).run Try.prog w = .ok (.slice (some ⟨w.heap.size, 0, none⟩) n n) (w.alloc (.cells (List.replicate (n * 6) (.int .i64 0)).toArray 49)) := by
 obtain ⟨i0, hi, hz0, hz1, hz2⟩ := info_parts3 infA
 have := run_make_rowN (P := Try.prog) 26 49 i0 (.agg #[.int .i64 0, .int .i64 0, .int .i64 0, .int .i64 0, .int .i64 0, .int .i64 0]) Try.underlying26 hi hz0 .i64 .i64 n n (Nat.le_refl _) (by rw [hz2]; omega) (by omega) w
 rw [hz1, made_const (v := .int .i64 0) (by simp [Value.cells]) (by simp [Value.cells])] at this
 exact this
set_option maxRecDepth 100000 in
theorem lendActs_i (w : World) (oa : Option Addr) (ca : Nat) (l : List Ac) (h : Src w oa l.length (acs l)) (hl : l.length ≤ 1048576) :
   Calls Try.prog 42 #[.slice oa l.length ca] w fun en w' => ∃ g, en = .returned (.slice (some ⟨g, 0, none⟩) l.length (l.length + 9)) ∧ Blk w' g 49 (acs (lendA l)).toArray ∧ w.heap.size ≤ g ∧ Below w.heap.size w w' := by
 have HS := hide h
 have hmk : ∀ W : World, (Instr.makeSlice 26 (.int .i64 ((l.length : Int) + 9)) (.int .i64 ((l.length : Int) + 9))).run Try.prog W = .ok (.slice (some ⟨W.heap.size, 0, none⟩) (l.length + 9) (l.length + 9)) (W.alloc (.cells (List.replicate ((l.length + 9) * 6) (.int .i64 0)).toArray 49)) := fun W => by
   have := make_acts W (l.length + 9) (by omega)
   simpa using this
 have u3 := IntWalk.i64_in ((l.length : Int) + 9) (by omega)
 clear h
 go_enter Try.func42, Try.ntmps42
 go_wp2_with (with_reducible refine wpList_copyN rfl (.tmp 9) (.tmp 10) 26 26 rfl 49 Try.underlying26 6 (by kernel_rfl) w.heap.size (l.length + 9) (l.length + 9) oa l.length ca rfl rfl (by omega) (List.replicate ((l.length + 9) * 6) (.int .i64 0)) 49 (Blk.new w 49 _) (acs l) (acs_len _) ?_ ?_ ?_ ?_)
 · exact HS.out.copy ((Below.refl _ w).alloc (Nat.le_refl _) _)
 · rw [acs_len]; first | (simp; done) | (simp; omega)
 · exact acs_one _
 intro w8 hk2 ho2
 have e1 : acs l ++ List.replicate ((l.length + 9) * 6 - (acs l).length) (.int .i64 0) = acs (l ++ markA l.length 0) := by
   rw [acs_len, show (l.length + 9) * 6 - l.length * 6 = 54 by omega, acs_append]; rfl
 have hb2 : Below w.heap.size w w8 := ((Below.refl w.heap.size w).alloc (Nat.le_refl _) _).trans (ho2.below (fun k e => Nat.le_of_eq e.symm) (by simp))
 have hg : Blk w8 w.heap.size 49 (acs (l ++ markA l.length 0)).toArray := by
   have := hk2
   rw [e1] at this
   exact this
 have HB := hide hb2
 have HG := hide hg
 clear hk2 ho2 hb2 hg e1
 obtain ⟨g, hgs⟩ : ∃ g, w.heap.size = g := ⟨_, rfl⟩
 have HGS := hide hgs
 rw [hgs]
 rw [hgs] at HG
 clear hgs
 go_wp2_with fail
 go_loopw [4] (fun tx W => ∃ j : Nat, tx = .int .i64 ((l.length : Int) + (j : Int)) ∧ j ≤ 9 ∧ Blk W g 49 (acs (l ++ markA l.length j)).toArray ∧ Only (fun k => k = g) w8 W) (fun tx _ => l.length + 9 - (intOf tx).toNat)
 case atStart => exact ⟨0, by simp, by omega, HG.out, Only.refl _ _⟩
 case round =>
   obtain ⟨j, rfl, hj, hk, hon⟩ := hrel
   rename World => W
   have v1 := IntWalk.i64_in ((l.length : Int) + (j : Int) + 1) (by omega)
   have HK := hide hk
   have HON := hide hon
   by_cases hlt : j < 9
   · have hlt2 : (l.length : Int) + (j : Int) < (l.length : Int) + 9 := by omega
     have hlt3 : l.length + j < l.length + 9 := by omega
     have hsz : (acs (l ++ markA l.length j)).length = (l.length + 9) * 6 := by rw [acs_len]; simp [markA]
     obtain ⟨x0, g0⟩ : ∃ x, W.cell? ⟨g, (l.length + j) * 6, none⟩ = some x := ⟨_, by rw [hk.cell]; exact Array.getElem?_eq_getElem (by simp only [List.size_toArray]; rw [hsz]; omega)⟩
     obtain ⟨x1, g1⟩ : ∃ x, W.cell? ⟨g, (l.length + j) * 6 + 1, none⟩ = some x := ⟨_, by rw [hk.cell]; exact Array.getElem?_eq_getElem (by simp only [List.size_toArray]; rw [hsz]; omega)⟩
     obtain ⟨x2, g2⟩ : ∃ x, W.cell? ⟨g, (l.length + j) * 6 + 2, none⟩ = some x := ⟨_, by rw [hk.cell]; exact Array.getElem?_eq_getElem (by simp only [List.size_toArray]; rw [hsz]; omega)⟩
     obtain ⟨x3, g3⟩ : ∃ x, W.cell? ⟨g, (l.length + j) * 6 + 3, none⟩ = some x := ⟨_, by rw [hk.cell]; exact Array.getElem?_eq_getElem (by simp only [List.size_toArray]; rw [hsz]; omega)⟩
     obtain ⟨x4, g4⟩ : ∃ x, W.cell? ⟨g, (l.length + j) * 6 + 4, none⟩ = some x := ⟨_, by rw [hk.cell]; exact Array.getElem?_eq_getElem (by simp only [List.size_toArray]; rw [hsz]; omega)⟩
     obtain ⟨x5, g5⟩ : ∃ x, W.cell? ⟨g, (l.length + j) * 6 + 5, none⟩ = some x := ⟨_, by rw [hk.cell]; exact Array.getElem?_eq_getElem (by simp only [List.size_toArray]; rw [hsz]; omega)⟩
     have gf0 := hk.frozen ((l.length + j) * 6)
     have gf1 := hk.frozen ((l.length + j) * 6 + 1)
     have gf2 := hk.frozen ((l.length + j) * 6 + 2)
     have gf3 := hk.frozen ((l.length + j) * 6 + 3)
     have gf4 := hk.frozen ((l.length + j) * 6 + 4)
     have gf5 := hk.frozen ((l.length + j) * 6 + 5)
     clear hk hon hsz
     go_wp2_with fail
     go_roundw
     case rel =>
       refine ⟨j + 1, by go_num, by omega, ?_, (((((HON.out.setCell (.inl rfl) _).setCell (.inl rfl) _).setCell (.inl rfl) _).setCell (.inl rfl) _).setCell (.inl rfl) _).setCell (.inl rfl) _⟩
       have := (((((HK.out.set_ ((l.length + j) * 6) (.int .i64 (-9))).set_ ((l.length + j) * 6 + 1) (.int .i64 ((l.length : Int) + (j : Int)))).set_ ((l.length + j) * 6 + 2) (.int .i64 0)).set_ ((l.length + j) * 6 + 3) (.int .i64 0)).set_ ((l.length + j) * 6 + 4) (.int .i64 0)).set_ ((l.length + j) * 6 + 5) (.int .i64 0)
       rw [acs_set (x := ⟨-9, (l.length : Int) + (j : Int), 0, 0, 0, 0⟩) (by simp [markA]; omega), markA_step l j (by omega)] at this
       exact this
     case measure => simp [intOf]; omega
   · have hj9 : j = 9 := by omega
     have hno : ¬ (l.length : Int) + (j : Int) < (l.length : Int) + 9 := by omega
     rw [hj9] at hk
     have HK9 := hide hk
     have hle := Nat.le_add_right l.length 9
     have HFB := hide (show Below w.heap.size w W from below_only HB.out hon (by have := HGS.out; omega) HB.out.size)
     clear hk hon hj9 hlt hj HK HON
     go_wp2_with fail
     go_ret
     exact ⟨g, rfl, HK9.out, by have := HGS.out; omega, HFB.out⟩
end Go.Proofs.Ytdpokdcendgfeaa
namespace Go.Proofs.Ytdpokdcendgfeaa
open Go.RowKit
theorem own_len {w : World} {B : Nat} {t : TypeId} {sz n : Nat} {u : Value} {xs : List Value} (h : w.ownsRow B t sz u n xs) : n ≤ maxLen := by
 rcases h.2 with ⟨_, h0⟩ | ⟨g, cap, cur, _, _, _, h1, h2, _⟩
 · rw [h0]; exact Nat.zero_le _
 · exact Nat.le_trans h1 h2
/-- a program that a call has made, as one that was handed in -/
theorem ProgIs.amem {W : World} {B : Nat} {out : Value} {gh : List Bool} {vs : List Vr} {ts on : List Int} {ms : Int} {cd : List In} (h : ProgIs W B out gh vs ts on ms cd) : ∃ p : PV, p.val = out ∧ AMem W p ⟨gh, vs, ts, on, ms, cd⟩ := by
 obtain ⟨g, v, t, o, c, rfl, h1, h2, h3, h4, h5, _⟩ := h
 have l1 := own_len h1
 have l2 := own_len h2
 have l3 := own_len h3
 have l4 := own_len h4
 have l5 := own_len h5
 obtain ⟨a1, b1, rfl, s1⟩ := own_src' h1
 obtain ⟨a2, b2, rfl, s2⟩ := own_src' h2
 obtain ⟨a3, b3, rfl, s3⟩ := own_src' h3
 obtain ⟨a4, b4, rfl, s4⟩ := own_src' h4
 obtain ⟨a5, b5, rfl, s5⟩ := own_src' h5
 refine ⟨⟨a1, a2, a3, a4, a5, gh.length, b1, vs.length, b2, ts.length, b3, on.length, b4, cd.length, b5, ms⟩, rfl, ⟨rfl, rfl, rfl, rfl, rfl, rfl, s1, ?_, s3, s4, ?_, l1, l2, l3, l4, l5⟩⟩
 · rw [varsV_eq]; exact s2
 · rw [codeV_eq]; exact s5
/-- the document's second example, and its code, as values -/
def knownV (g : Nat) : PlV := ⟨none, none, none, none, some ⟨g, 0, none⟩, 0, 0, 0, 0, 0, 0, 0, 0, 4, 4⟩
def knownC : List In := [⟨24, 3, 0, 0, 0⟩, ⟨25, 5, 0, 0, 0⟩, ⟨2, 1, 0, 0, 0⟩, ⟨26, 5, 0, 0, 0⟩, ⟨27, 1, 0, 0, 0⟩, ⟨0, 0, 0, 0, 0⟩]
theorem known_mem {w : World} {g : Nat} (h : Blk w g 49 (acs knownP.ms).toArray) : PlMem w (knownV g) knownP [] :=
 ⟨rfl, rfl, rfl, rfl, rfl, src_nil _ _, src_nil _ _, src_nil _ _, src_nil _ _, ⟨rfl, fun i oa c l h1 h2 => by
   cases i with
   | zero =>
     simp [knownV] at h1
     obtain ⟨rfl, rfl⟩ := h1
     simp [knownP] at h2
     subst h2
     exact ⟨src_blk _ h, by decide, by unfold maxLen; decide⟩
   | succ i => simp at h1⟩, by unfold maxLen; decide⟩
def knownW (g : Nat) : PV := ⟨none, none, none, none, some ⟨g, 0, none⟩, 0, 0, 0, 0, 0, 0, 0, 0, 6, 6, 0⟩
theorem knownW_mem {w : World} {g : Nat} (h : Blk w g 56 (codeV knownC).toArray) : AMem w (knownW g) ⟨[], [], [], [], 0, knownC⟩ :=
 ⟨rfl, rfl, rfl, rfl, rfl, rfl, src_nil _ _, src_nil _ _, src_nil _ _, src_nil _ _, src_blk _ h, by simp [knownW, maxLen]⟩
set_option maxRecDepth 100000 in
theorem known_i (w : World) : Calls Try.prog 12 #[] w fun en w' => en = .returned (.bool true) ∧ Below w.heap.size w w' := by
 have HMK := hide (fun (W : World) (g : Nat) (h : Blk W g 49 (acs knownP.ms).toArray) => make_i W (knownV g) knownP [] (known_mem h) (by intro l hl; simp [knownP] at hl; subst hl; decide))
 have HOR := hide (fun (W : World) (g : Nat) (h : Blk W g 49 (acs knownP.ms).toArray) => origin_i W (knownV g) knownP [] (known_mem h) (by intro l hl; simp [knownP] at hl; subst hl; decide))
 unfold MakeP at HMK
 unfold OrigP at HOR
 rw [known_check, known_make] at HMK HOR
 simp only [knownV, PlV.val] at HMK HOR
 go_enter Try.func12, Try.ntmps12
 go_upto_region 2 with fail
 have HW1 := hide (show Below w.heap.size w ((w.alloc (.cells #[.int .i64 1, .int .i64 0, .int .i64 0, .int .i64 0, .int .i64 0, .int .i64 1, .int .i64 3, .int .i64 3, .int .i64 0, .int .i64 0, .int .i64 0, .int .i64 2, .int .i64 20, .int .i64 1, .int .i64 0, .int .i64 0, .int .i64 0, .int .i64 0, .int .i64 1, .int .i64 0, .int .i64 0, .int .i64 0, .int .i64 0, .int .i64 0] 49)).alloc (.cells #[.slice none 0 0, .slice none 0 0, .slice none 0 0, .slice none 0 0, .slice (some ⟨w.heap.size, 0, none⟩) 4 4] 28)) from ((Below.refl _ w).alloc (Nat.le_refl _) _).alloc (by simp) _)
 have HA1 := hide (show Blk ((w.alloc (.cells #[.int .i64 1, .int .i64 0, .int .i64 0, .int .i64 0, .int .i64 0, .int .i64 1, .int .i64 3, .int .i64 3, .int .i64 0, .int .i64 0, .int .i64 0, .int .i64 2, .int .i64 20, .int .i64 1, .int .i64 0, .int .i64 0, .int .i64 0, .int .i64 0, .int .i64 1, .int .i64 0, .int .i64 0, .int .i64 0, .int .i64 0, .int .i64 0] 49)).alloc (.cells #[.slice none 0 0, .slice none 0 0, .slice none 0 0, .slice none 0 0, .slice (some ⟨w.heap.size, 0, none⟩) 4 4] 28)) w.heap.size 49 (acs knownP.ms).toArray from (Blk.new w 49 #[.int .i64 1, .int .i64 0, .int .i64 0, .int .i64 0, .int .i64 0, .int .i64 1, .int .i64 3, .int .i64 3, .int .i64 0, .int .i64 0, .int .i64 0, .int .i64 2, .int .i64 20, .int .i64 1, .int .i64 0, .int .i64 0, .int .i64 0, .int .i64 0, .int .i64 1, .int .i64 0, .int .i64 0, .int .i64 0, .int .i64 0, .int .i64 0]).alloc _)
 have hp1 := Blk.new (w.alloc (.cells #[.int .i64 1, .int .i64 0, .int .i64 0, .int .i64 0, .int .i64 0, .int .i64 1, .int .i64 3, .int .i64 3, .int .i64 0, .int .i64 0, .int .i64 0, .int .i64 2, .int .i64 20, .int .i64 1, .int .i64 0, .int .i64 0, .int .i64 0, .int .i64 0, .int .i64 1, .int .i64 0, .int .i64 0, .int .i64 0, .int .i64 0, .int .i64 0] 49)) 28 #[.slice none 0 0, .slice none 0 0, .slice none 0 0, .slice none 0 0, .slice (some ⟨w.heap.size, 0, none⟩) 4 4]
 have hs1 : (w.alloc (.cells #[.int .i64 1, .int .i64 0, .int .i64 0, .int .i64 0, .int .i64 0, .int .i64 1, .int .i64 3, .int .i64 3, .int .i64 0, .int .i64 0, .int .i64 0, .int .i64 2, .int .i64 20, .int .i64 1, .int .i64 0, .int .i64 0, .int .i64 0, .int .i64 0, .int .i64 1, .int .i64 0, .int .i64 0, .int .i64 0, .int .i64 0, .int .i64 0] 49)).heap.size = w.heap.size + 1 := by simp
 rw [hs1] at hp1
 have HP1 := hide hp1
 clear hp1 hs1
 generalize ((w.alloc (.cells #[.int .i64 1, .int .i64 0, .int .i64 0, .int .i64 0, .int .i64 0, .int .i64 1, .int .i64 3, .int .i64 3, .int .i64 0, .int .i64 0, .int .i64 0, .int .i64 2, .int .i64 20, .int .i64 1, .int .i64 0, .int .i64 0, .int .i64 0, .int .i64 0, .int .i64 1, .int .i64 0, .int .i64 0, .int .i64 0, .int .i64 0, .int .i64 0] 49)).alloc (.cells #[.slice none 0 0, .slice none 0 0, .slice none 0 0, .slice none 0 0, .slice (some ⟨w.heap.size, 0, none⟩) 4 4] 28)) = W1 at HW1 HA1 HP1
 obtain ⟨p0, p1, p2, p3, p4, _⟩ := blk5 HP1.out
 have hc := HMK.out W1 w.heap.size HA1.out
 go_upto_region 3 with (
   go_at_call 15
   with_reducible refine hc.mono ?_
   rintro en W2 ⟨hb2, out, rfl, _, hg⟩
   obtain ⟨hpr, _⟩ := hg trivial
   have HB2 := hide hb2
   have HPR := hide hpr
   obtain ⟨_, _, _, _, _, _, rfl, ⟨o1, n1, k1, rfl⟩, ⟨o2, n2, k2, rfl⟩, ⟨o3, n3, k3, rfl⟩, ⟨o4, n4, k4, rfl⟩, ⟨mi, rfl⟩, ⟨o6, n6, k6, rfl⟩⟩ := hpr.six
   clear hb2 hg hpr)
 clear p0 p1 p2 p3 p4 hc HMK
 have HB3 := hide ((Below.refl W2.heap.size W2).alloc (Nat.le_refl _) (.cells #[.slice o1 n1 k1, .slice o2 n2 k2, .slice o3 n3 k3, .slice o4 n4 k4, .int .i64 mi, .slice o6 n6 k6] 34))
 have HN3 := hide (Blk.new W2 34 #[.slice o1 n1 k1, .slice o2 n2 k2, .slice o3 n3 k3, .slice o4 n4 k4, .int .i64 mi, .slice o6 n6 k6])
 generalize W2.alloc (.cells #[.slice o1 n1 k1, .slice o2 n2 k2, .slice o3 n3 k3, .slice o4 n4 k4, .int .i64 mi, .slice o6 n6 k6] 34) = W3 at HB3 HN3
 have HB23 := hide (HB2.out.trans (HB3.out.mono HB2.out.size))
 have HA3 := hide (HA1.out.below HB23.out HA1.out.lt)
 have HP3 := hide (HP1.out.below HB23.out HP1.out.lt)
 have HPR3 := hide (HPR.out.below HB3.out)
 obtain ⟨p0, p1, p2, p3, p4, _⟩ := blk5 HP3.out
 have hc := HOR.out W3 w.heap.size HA3.out
 go_upto_region 4 with (
   go_at_call 19
   with_reducible refine hc.mono ?_
   rintro en W4 ⟨hb4, ev, rw_, rfl, _, hg⟩
   obtain ⟨hev, hrw, _⟩ := hg trivial
   have HB4 := hide hb4
   obtain ⟨ea, ec, rfl, hse⟩ := own_src' hev
   obtain ⟨ra, rc, rfl, hsr⟩ := own_src' hrw
   have HSE := hide hse
   have HSR := hide hsr
   clear hb4 hg hev hrw hse hsr)
 clear p0 p1 p2 p3 p4 hc HOR
 have HN4 := hide (HN3.out.below HB4.out HN3.out.lt)
 have HPR4 := hide (HPR3.out.below HB4.out)
 have HB14 := hide ((HW1.out.trans (HB23.out.mono HW1.out.size)).trans (HB4.out.mono (Nat.le_trans HW1.out.size HB23.out.size)))
 go_upto_region 5 with fail
 have HC5 := hide (show Blk (W4.alloc (.cells #[.int .i64 24, .int .i64 3, .int .i64 0, .int .i64 0, .int .i64 0, .int .i64 25, .int .i64 5, .int .i64 0, .int .i64 0, .int .i64 0, .int .i64 2, .int .i64 1, .int .i64 0, .int .i64 0, .int .i64 0, .int .i64 26, .int .i64 5, .int .i64 0, .int .i64 0, .int .i64 0, .int .i64 27, .int .i64 1, .int .i64 0, .int .i64 0, .int .i64 0, .int .i64 0, .int .i64 0, .int .i64 0, .int .i64 0, .int .i64 0] 56)) W4.heap.size 56 (codeV knownC).toArray from Blk.new W4 56 #[.int .i64 24, .int .i64 3, .int .i64 0, .int .i64 0, .int .i64 0, .int .i64 25, .int .i64 5, .int .i64 0, .int .i64 0, .int .i64 0, .int .i64 2, .int .i64 1, .int .i64 0, .int .i64 0, .int .i64 0, .int .i64 26, .int .i64 5, .int .i64 0, .int .i64 0, .int .i64 0, .int .i64 27, .int .i64 1, .int .i64 0, .int .i64 0, .int .i64 0, .int .i64 0, .int .i64 0, .int .i64 0, .int .i64 0, .int .i64 0])
 have HB5 := hide ((Below.refl W4.heap.size W4).alloc (Nat.le_refl _) (.cells #[.int .i64 24, .int .i64 3, .int .i64 0, .int .i64 0, .int .i64 0, .int .i64 25, .int .i64 5, .int .i64 0, .int .i64 0, .int .i64 0, .int .i64 2, .int .i64 1, .int .i64 0, .int .i64 0, .int .i64 0, .int .i64 26, .int .i64 5, .int .i64 0, .int .i64 0, .int .i64 0, .int .i64 27, .int .i64 1, .int .i64 0, .int .i64 0, .int .i64 0, .int .i64 0, .int .i64 0, .int .i64 0, .int .i64 0, .int .i64 0] 56))
 generalize W4.alloc (.cells #[.int .i64 24, .int .i64 3, .int .i64 0, .int .i64 0, .int .i64 0, .int .i64 25, .int .i64 5, .int .i64 0, .int .i64 0, .int .i64 0, .int .i64 2, .int .i64 1, .int .i64 0, .int .i64 0, .int .i64 0, .int .i64 26, .int .i64 5, .int .i64 0, .int .i64 0, .int .i64 0, .int .i64 27, .int .i64 1, .int .i64 0, .int .i64 0, .int .i64 0, .int .i64 0, .int .i64 0, .int .i64 0, .int .i64 0, .int .i64 0] 56) = W5 at HC5 HB5
 have HN5 := hide (HN4.out.below HB5.out HN4.out.lt)
 have HPR5 := hide (HPR4.out.below HB5.out)
 have HSE5 := hide (HSE.out.below HB5.out)
 have HSR5 := hide (HSR.out.below HB5.out)
 have HB15 := hide (HB14.out.trans (HB5.out.mono HB14.out.size))
 obtain ⟨z0, z1, z2, z3, z4, z5, _⟩ := blk6 HN5.out
 obtain ⟨pv, hpv, ham⟩ := HPR5.out.amem
 have hc := sameProgram_i W5 pv (knownW W4.heap.size) _ ham (knownW_mem HC5.out)
 rw [hpv] at hc
 simp only [knownW, PV.val] at hc
 clear hpv ham
 have hse1 := fun (W : World) (hb : Below W5.heap.size W5 W) (g c : Nat) (hk : Blk W g 3 (ints [1, 1, 2, 1, 1, 0]).toArray) => sameInts_i W ra (some ⟨g, 0, none⟩) 6 rc 6 [1, 1, 2, 1, 1, 0] (HSR5.out.below hb) (src_blk 6 hk) rfl (by unfold maxLen; decide)
 have hse2 := fun (W : World) (hb : Below W5.heap.size W5 W) (g c : Nat) (hk : Blk W g 3 (ints [-1, -1, -1, -1, -1, -1]).toArray) => sameInts_i W ea (some ⟨g, 0, none⟩) 6 ec 6 [-1, -1, -1, -1, -1, -1] (HSE5.out.below hb) (src_blk 6 hk) rfl (by unfold maxLen; decide)
 have HS1 := hide hse1
 have HS2 := hide hse2
 clear hse1 hse2
 go_wp2_with (
   go_at_call 18
   with_reducible refine hc.mono ?_
   rintro en W6 ⟨rfl, hb6⟩
   have HB6 := hide hb6
   have h1 := HS1.out (W6.alloc (.cells #[.int .i64 1, .int .i64 1, .int .i64 2, .int .i64 1, .int .i64 1, .int .i64 0] 3)) (hb6.alloc hb6.size _) W6.heap.size 6 (Blk.new W6 3 #[.int .i64 1, .int .i64 1, .int .i64 2, .int .i64 1, .int .i64 1, .int .i64 0])
   clear hb6)
 go_wp2_with (
   go_at_call 21
   with_reducible refine h1.mono ?_
   rintro en W7 ⟨rfl, hb7⟩
   have hb57 := HB6.out.trans (((Below.refl W6.heap.size W6).alloc (Nat.le_refl _) (.cells #[.int .i64 1, .int .i64 1, .int .i64 2, .int .i64 1, .int .i64 1, .int .i64 0] 3)).trans (hb7.mono (by simp)) |>.mono HB6.out.size)
   have HB7 := hide hb57
   have h2 := HS2.out (W7.alloc (.cells #[.int .i64 (-1), .int .i64 (-1), .int .i64 (-1), .int .i64 (-1), .int .i64 (-1), .int .i64 (-1)] 3)) (hb57.alloc hb57.size _) W7.heap.size 6 (Blk.new W7 3 #[.int .i64 (-1), .int .i64 (-1), .int .i64 (-1), .int .i64 (-1), .int .i64 (-1), .int .i64 (-1)])
   clear hb7 hb57 h1)
 go_wp2_with (
   go_at_call 21
   with_reducible refine h2.mono ?_
   rintro en W8 ⟨rfl, hb8⟩
   have HB8 := hide (HB7.out.trans (((Below.refl W7.heap.size W7).alloc (Nat.le_refl _) (.cells #[.int .i64 (-1), .int .i64 (-1), .int .i64 (-1), .int .i64 (-1), .int .i64 (-1), .int .i64 (-1)] 3)).trans (hb8.mono (by simp)) |>.mono HB7.out.size))
   clear hb8 h2)
 go_ret
 exact ⟨rfl, HB15.out.trans (HB8.out.mono HB15.out.size)⟩
end Go.Proofs.Ytdpokdcendgfeaa
namespace Go.Proofs.Ytdpokdcendgfeaa
open Go.RowKit
/-- how many acts and events a plan has -/
def sizeP (P : Pl) : Nat := P.ms.length + P.on.length + rowsV P.on
set_option maxRecDepth 100000 in
theorem large_i (w : World) (q : PlV) (P : Pl) (rs : List (Option Addr × Nat)) (h : PlMem w q P rs) (hbig : ∀ l ∈ P.on ++ [P.ms], l.length ≤ 4398046511104) (hon : P.on.length ≤ 8796093022208) :
   Calls Try.prog 13 #[q.val] w fun en w' => en = .returned (.bool (decide (524288 < sizeP P))) ∧ Below w.heap.size w w' := by
 have HM0 := hide h
 have hrl := h.e.1
 simp only [List.length_append, List.length_cons, List.length_nil] at hrl
 obtain ⟨e1, e2, e3, e4, e5, _, _, _, _, _, _⟩ := h
 obtain ⟨ga, va, ta, oa, ma, gl, gc, vl, vc, tl, tc, ol, oc, ml, mc⟩ := q
 simp only at e1 e2 e3 e4 e5
 subst e1 e2 e3 e4 e5
 simp only [PlV.val]
 have hms := hbig P.ms (by simp)
 have HBIG := hide (fun (l : List Ac) (hl : l ∈ P.on) => hbig l (List.mem_append_left _ hl))
 obtain ⟨N, hN⟩ : ∃ N, P.on.length = N := ⟨_, rfl⟩
 obtain ⟨M, hM⟩ : ∃ M, P.ms.length = M := ⟨_, rfl⟩
 rw [hN] at hon hrl
 rw [hM] at hms
 have HN := hide hN
 have HMS := hide hM
 have HRL := hide (show rs.length = N by omega)
 have HW1 := hide (show Below w.heap.size w (w.alloc (.cells #[.slice ga P.gh.length gc, .slice va P.vs.length vc, .slice ta P.ts.length tc, .slice oa N oc, .slice ma M mc] 28)) from (Below.refl _ w).alloc (Nat.le_refl _) _)
 have HP1 := hide (Blk.new w 28 #[.slice ga P.gh.length gc, .slice va P.vs.length vc, .slice ta P.ts.length tc, .slice oa N oc, .slice ma M mc])
 have u1 := IntWalk.i64_in ((M : Int) + (N : Int)) (by omega)
 rw [hN, hM]
 clear hrl hN hM hbig
 go_enter Try.func13, Try.ntmps13
 go_upto_region 1 with fail
 generalize w.alloc (.cells #[.slice ga P.gh.length gc, .slice va P.vs.length vc, .slice ta P.ts.length tc, .slice oa N oc, .slice ma M mc] 28) = W1 at HW1 HP1
 obtain ⟨p0, p1, p2, p3, p4, _⟩ := blk5 HP1.out
 go_wp2_with fail
 go_loopw [3, 4] (fun t3 t4 Wi => ∃ i : Nat, t3 = .int .i64 (((M + N + rowsV (P.on.take i) : Nat)) : Int) ∧ t4 = .int .i64 (i : Int) ∧ i ≤ N ∧ M + N + rowsV (P.on.take i) ≤ 17592186044416 ∧ Below W1.heap.size W1 Wi) (fun _ t4 _ => N - (intOf t4).toNat)
 case atStart => exact ⟨0, by simp [rowsV], rfl, Nat.zero_le _, by simp [rowsV]; omega, Below.refl _ _⟩
 case round =>
   obtain ⟨i, rfl, rfl, hi, hs, hb⟩ := hrel
   rename World => Wi
   have HB := hide hb
   have hq2 := IntWalk.i64_in ((i : Int) + 1) (by omega)
   have hpi := HP1.out.below hb HP1.out.lt
   obtain ⟨p0, p1, p2, p3, p4, _⟩ := blk5 hpi
   obtain ⟨s, hse⟩ : ∃ s, M + N + rowsV (P.on.take i) = s := ⟨_, rfl⟩
   have HSE := hide hse
   rw [hse] at hs ⊢
   clear hb hpi hse
   by_cases hlt : i < N
   · have hltI : (i : Int) < (N : Int) := by omega
     obtain ⟨l, hl⟩ : ∃ l, P.on[i]? = some l := ⟨_, List.getElem?_eq_getElem (by rw [HN.out]; exact hlt)⟩
     obtain ⟨⟨ra, rc⟩, hr⟩ : ∃ r, rs[i]? = some r := ⟨_, List.getElem?_eq_getElem (by rw [HRL.out]; exact hlt)⟩
     obtain ⟨ad, e, hab, q0⟩ := src_get ((HM0.out.below (HW1.out.trans (HB.out.mono HW1.out.size))).o) (i := i) (v := .slice ra l.length rc) (by rw [HN.out]; omega) (slv_get _ _ i _ _ hr hl)
     simp only at e
     subst e
     have hll := HBIG.out l (List.mem_of_getElem? hl)
     have HSS := hide (rowsV_succ hl)
     by_cases h7 : s ≤ 524288
     · have h7I : (s : Int) ≤ 524288 := by omega
       have u2 := IntWalk.i64_in ((s : Int) + (l.length : Int)) (by omega)
       clear hl hr hab
       go_wp2_with fail
       go_roundw
       case rel => exact ⟨i + 1, by have h8 := HSS.out; have h9 := HSE.out; go_num, by go_num, by omega, by have h8 := HSS.out; have h9 := HSE.out; omega, HB.out⟩
       case measure =>
         simp only [intOf]
         omega
     · have h7I : ¬ (s : Int) ≤ 524288 := by omega
       have h7J : (524288 : Int) < (s : Int) := by omega
       have HF := hide (show decide (524288 < sizeP P) = true from by
         have h8 := HSE.out
         have h9 := rowsV_le P.on i
         have h10 := HN.out
         have h11 := HMS.out
         unfold sizeP
         rw [decide_eq_true_eq]
         omega)
       clear hl hr hab
       go_wp2_with fail
       go_ret
       rw [HF.out]
       exact ⟨rfl, HW1.out.trans (HB.out.mono HW1.out.size)⟩
   · have hie : i = N := by omega
     have hltI : ¬ (i : Int) < (N : Int) := by omega
     have HF := hide (show decide (524288 < sizeP P) = decide ((524288 : Int) < (s : Int)) from by
       have h8 := HSE.out
       rw [hie, List.take_of_length_le (by rw [HN.out]; exact Nat.le_refl _)] at h8
       have h10 := HN.out
       have h11 := HMS.out
       unfold sizeP
       rw [h10, h11, h8]
       by_cases h12 : 524288 < s
       · rw [decide_eq_true h12, decide_eq_true (by omega)]
       · rw [decide_eq_false h12, decide_eq_false (by omega)])
     clear hie hlt
     go_wp2_with fail
     go_ret
     rw [HF.out]
     exact ⟨rfl, HW1.out.trans (HB.out.mono HW1.out.size)⟩
end Go.Proofs.Ytdpokdcendgfeaa
namespace Go.Proofs.Ytdpokdcendgfeaa
open Go.RowKit
/-- where events that are lent lie -/
def lrs : List Nat → List (List Ac) → List (Option Addr × Nat)
 | e :: es, l :: ls => (some ⟨e, 0, none⟩, l.length + 9) :: lrs es ls
 | _, _ => []
theorem lrs_length : ∀ (es : List Nat) (ls : List (List Ac)), es.length = ls.length → (lrs es ls).length = ls.length
 | [], [], _ => rfl
 | e :: es, l :: ls, h => by simp only [lrs, List.length_cons, lrs_length es ls (by simpa using h)]
 | [], l :: ls, h => by simp at h
 | e :: es, [], h => by simp at h
theorem lrs_get : ∀ (es : List Nat) (ls : List (List Ac)) (i : Nat) (e : Nat) (l : List Ac), es[i]? = some e → ls[i]? = some l → (lrs es ls)[i]? = some (some ⟨e, 0, none⟩, l.length + 9)
 | e' :: es, l' :: ls, 0, e, l, h1, h2 => by
   simp at h1 h2
   subst h1 h2
   rfl
 | e' :: es, l' :: ls, i + 1, e, l, h1, h2 => by
   simp only [lrs, List.getElem?_cons_succ]
   exact lrs_get es ls i e l (by simpa using h1) (by simpa using h2)
 | [], ls, i, e, l, h1, h2 => by simp at h1
 | e' :: es, [], i, e, l, h1, h2 => by simp at h2
theorem lrs_append : ∀ (es : List Nat) (ls : List (List Ac)) (e : Nat) (l : List Ac), es.length = ls.length → lrs (es ++ [e]) (ls ++ [l]) = lrs es ls ++ [(some ⟨e, 0, none⟩, l.length + 9)]
 | [], [], e, l, _ => rfl
 | e' :: es, l' :: ls, e, l, h => by simp only [List.cons_append, lrs, lrs_append es ls e l (by simpa using h)]
 | [], l' :: ls, e, l, h => by simp at h
 | e' :: es, [], e, l, h => by simp at h
/-- events that are lent, in memory: each in a block of its own, later ones behind earlier ones -/
structure LEv (w : World) (gm : Nat) (es : List Nat) (ls : List (List Ac)) : Prop where
 n : es.length = ls.length
 e : ∀ (i : Nat) (e : Nat) (l : List Ac), es[i]? = some e → ls[i]? = some l → Blk w e 49 (acs (lendA l)).toArray ∧ gm < e
 inc : ∀ (i j a b : Nat), i < j → es[i]? = some a → es[j]? = some b → a < b
theorem LEv.keep {w w' : World} {gm : Nat} {es : List Nat} {ls : List (List Ac)} (h : LEv w gm es ls) (hk : ∀ {g : Nat} {cs : Array Value}, g ∈ es → Blk w g 49 cs → Blk w' g 49 cs) : LEv w' gm es ls :=
 ⟨h.n, fun i e l h1 h2 => ⟨hk (List.mem_of_getElem? h1) (h.e i e l h1 h2).1, (h.e i e l h1 h2).2⟩, h.inc⟩
theorem LEv.nil (w : World) (gm : Nat) : LEv w gm [] [] := ⟨rfl, fun i e l h => by simp at h, fun i j a b _ h => by simp at h⟩
theorem LEv.more {w : World} {gm g : Nat} {es : List Nat} {ls : List (List Ac)} {l : List Ac} (h : LEv w gm es ls) (hg : Blk w g 49 (acs (lendA l)).toArray) (hm : gm < g) (hn : ∀ e ∈ es, e < g) : LEv w gm (es ++ [g]) (ls ++ [l]) := by
 have hl := h.n
 refine ⟨by simp [hl], fun i e l' h1 h2 => ?_, fun i j a b hij h1 h2 => ?_⟩
 · by_cases hi : i < ls.length
   · rw [List.getElem?_append_left (by omega)] at h1
     rw [List.getElem?_append_left hi] at h2
     exact h.e i e l' h1 h2
   · have hi2 := (List.getElem?_eq_some_iff.1 h2).1
     simp only [List.length_append, List.length_cons, List.length_nil] at hi2
     obtain rfl : i = ls.length := by omega
     rw [List.getElem?_append_right (by omega)] at h1 h2
     simp [hl] at h1 h2
     subst h1 h2
     exact ⟨hg, hm⟩
 · have hj2 := (List.getElem?_eq_some_iff.1 h2).1
   simp only [List.length_append, List.length_cons, List.length_nil] at hj2
   rw [List.getElem?_append_left (by omega)] at h1
   by_cases hj : j < es.length
   · rw [List.getElem?_append_left hj] at h2
     exact h.inc i j a b hij h1 h2
   · obtain rfl : j = es.length := by omega
     rw [List.getElem?_append_right (by omega)] at h2
     simp at h2
     subst h2
     exact hn a (List.mem_of_getElem? h1)
/-- a plan that is lent, in memory -/
structure LentP (w : World) (B gg gv gt gl gm : Nat) (es : List Nat) (P : Pl) : Prop where
 g : Blk w gg 4 (boolsV (P.gh ++ List.replicate 3 false)).toArray
 v : Blk w gv 51 (varsV (P.vs ++ markV)).toArray
 t : Blk w gt 3 (ints (lendL P.ts)).toArray
 l : Blk w gl 26 (slv (lrs es P.on) P.on ++ [Value.slice none 0 0, Value.slice none 0 0]).toArray
 m : Blk w gm 49 (acs (lendA P.ms)).toArray
 e : LEv w gm es P.on
 base : B ≤ gg ∧ B ≤ gv ∧ B ≤ gt ∧ B ≤ gl ∧ B ≤ gm
def lentPl (gg gv gt gl gm : Nat) (P : Pl) : PlV := ⟨some ⟨gg, 0, none⟩, some ⟨gv, 0, none⟩, some ⟨gt, 0, none⟩, some ⟨gl, 0, none⟩, some ⟨gm, 0, none⟩, P.gh.length, P.gh.length + 3, P.vs.length, P.vs.length + 3, P.ts.length, P.ts.length + 5, P.on.length, P.on.length + 2, P.ms.length, P.ms.length + 9⟩
theorem src_pre {w : World} {g n : Nat} {t : TypeId} {xs ys : List Value} (h : Blk w g t (xs ++ ys).toArray) : Src w (some ⟨g, 0, none⟩) n xs := fun _ => by
 refine ⟨_, rfl, h.lt, fun j v hj => ?_⟩
 have hadd : (⟨g, 0, none⟩ : Addr).add j = ⟨g, j, none⟩ := by unfold Addr.add; split <;> simp_all
 rw [hadd, h.cell]
 have := get_left (l' := ys) hj
 simpa using this
theorem LentP.mem {w : World} {B gg gv gt gl gm : Nat} {es : List Nat} {P : Pl} (h : LentP w B gg gv gt gl gm es P) (hl : P.gh.length ≤ maxLen ∧ P.vs.length ≤ maxLen ∧ P.ts.length ≤ maxLen ∧ P.on.length ≤ maxLen) (hb : ∀ l ∈ P.on ++ [P.ms], l.length ≤ 4398046511104) : PlMem w (lentPl gg gv gt gl gm P) P (lrs es P.on) where
 gl := rfl
 vl := rfl
 tl := rfl
 ol := rfl
 ml := rfl
 g := by
   have e : boolsV (P.gh ++ List.replicate 3 false) = boolsV P.gh ++ boolsV (List.replicate 3 false) := by simp [boolsV]
   have h1 := h.g
   rw [e] at h1
   exact src_pre h1
 v := by
   have e : varsV (P.vs ++ markV) = varsV P.vs ++ varsV markV := by simp [varsV]
   have h1 := h.v
   rw [e] at h1
   rw [← varsV_eq]
   exact src_pre h1
 t := by
   have e : ints (lendL P.ts) = ints P.ts ++ ints ((List.range 5).map fun (k : Nat) => if k < 5 then -77 - ((P.ts.length : Int) + (k : Int)) else 0) := by simp [ints, lendL, lendJ]
   have h1 := h.t
   rw [e] at h1
   exact src_pre h1
 o := src_pre h.l
 e := by
   refine ⟨by simp [lrs_length es P.on h.e.n], fun i oa c l h1 h2 => ?_⟩
   have hll := hb l (List.mem_of_getElem? h2)
   by_cases hi : i < P.on.length
   · rw [List.getElem?_append_left (by rw [lrs_length es P.on h.e.n]; exact hi)] at h1
     rw [List.getElem?_append_left hi] at h2
     obtain ⟨e, he⟩ : ∃ e, es[i]? = some e := ⟨_, List.getElem?_eq_getElem (by rw [h.e.n]; exact hi)⟩
     rw [lrs_get es P.on i e l he h2] at h1
     injection h1 with h1
     injection h1 with h3 h4
     subst h3 h4
     have h5 := (h.e.e i e l he h2).1
     unfold lendA at h5
     rw [acs_append] at h5
     exact ⟨src_pre h5, by omega, by unfold maxLen; omega⟩
   · have hi2 := (List.getElem?_eq_some_iff.1 h2).1
     simp only [List.length_append, List.length_cons, List.length_nil] at hi2
     obtain rfl : i = P.on.length := by omega
     rw [List.getElem?_append_right (by rw [lrs_length es P.on h.e.n]; omega)] at h1
     rw [List.getElem?_append_right (by omega)] at h2
     simp [lrs_length es P.on h.e.n, lentPl] at h1 h2
     obtain ⟨rfl, rfl⟩ := h1
     subst h2
     have h5 := h.m
     unfold lendA at h5
     rw [acs_append] at h5
     exact ⟨src_pre h5, by omega, by unfold maxLen; omega⟩
 l := hl
theorem LentP.keep {w w' : World} {B gg gv gt gl gm : Nat} {es : List Nat} {P : Pl} (h : LentP w B gg gv gt gl gm es P) (hk : ∀ {g : Nat} {t : TypeId} {cs : Array Value}, B ≤ g → Blk w g t cs → Blk w' g t cs) : LentP w' B gg gv gt gl gm es P := by
 obtain ⟨b1, b2, b3, b4, b5⟩ := h.base
 refine ⟨hk b1 h.g, hk b2 h.v, hk b3 h.t, hk b4 h.l, hk b5 h.m, h.e.keep (fun hg hb => hk ?_ hb), h.base⟩
 rename_i g _
 obtain ⟨i, hi⟩ := List.getElem?_of_mem hg
 obtain ⟨l, hl⟩ : ∃ l, P.on[i]? = some l := ⟨_, List.getElem?_eq_getElem (by have := (List.getElem?_eq_some_iff.1 hi).1; have := h.e.n; omega)⟩
 have := (h.e.e i g l hi hl).2
 omega
theorem LentP.below {w w' : World} {B gg gv gt gl gm : Nat} {es : List Nat} {P : Pl} (h : LentP w B gg gv gt gl gm es P) (hb : Below w.heap.size w w') : LentP w' B gg gv gt gl gm es P := h.keep (fun _ h9 => h9.below hb h9.lt)
/-! region 2: the acts that are lent, and the plan -/
def K2 (xb pb : Nat) (a b c m : Value) : Nat → Option Value
 | 0 => some (.pointer (some ⟨xb, 0, none⟩))
 | 1 => some a
 | 2 => some (.pointer (some ⟨xb, 1, none⟩))
 | 3 => some b
 | 4 => some (.pointer (some ⟨xb, 2, none⟩))
 | 5 => some c
 | 6 => some (.pointer (some ⟨pb, 4, none⟩))
 | 7 => some m
 | _ => none
structure JL (W1 : World) (l : List Ac) (xb pb : Nat) (a b c m : Value) (S : Nat → Bool) (vs : Nat → Value) (w : World) : Prop where
 k : ∀ i d, K2 xb pb a b c m i = some d → S i = true → vs i = d
 bl : Below W1.heap.size W1 w
 s8 : S 8 = true → ∃ g, vs 8 = .slice (some ⟨g, 0, none⟩) l.length (l.length + 9) ∧ Blk w g 49 (acs (lendA l)).toArray ∧ W1.heap.size ≤ g
 s9 : S 9 = true → vs 9 = .agg #[a, b, c, .slice none 0 0, vs 8]
 s10 : S 10 = true → ∃ q, vs 10 = .pointer (some ⟨q, 0, none⟩) ∧ W1.heap.size ≤ q ∧ (S 11 = false → Blk w q 28 nil5) ∧ (S 11 = true → Blk w q 28 #[a, b, c, .slice none 0 0, vs 8])
section
variable {W1 w w' : World} {l : List Ac} {xb pb : Nat} {a b c m d u : Value} {S : Nat → Bool} {vs : Nat → Value} {j : Nat}
theorem JL.kn (h : JL W1 l xb pb a b c m S vs w) {j : Nat} {d : Value} (hj : ∀ e, K2 xb pb a b c m j = some e → d = e) : ∀ i e, K2 xb pb a b c m i = some e → upn S j true i = true → upn vs j d i = e := by
 intro i e hk hS
 by_cases hkj : i = j
 · subst hkj
   rw [upn_eq]
   exact hj e hk
 · rw [upn_ne hkj] at hS ⊢
   exact h.k i e hk hS
theorem JL.known (h : JL W1 l xb pb a b c m S vs w) (hj : j ≠ 8 ∧ j ≠ 9 ∧ j ≠ 10 ∧ j ≠ 11) (hk : K2 xb pb a b c m j = some u) : JL W1 l xb pb a b c m (upn S j true) (upn vs j u) w := by
 obtain ⟨h8, h9, h10, h11⟩ := hj
 refine ⟨h.kn (fun d hd => by rw [hk] at hd; injection hd), h.bl, fun h1 => ?_, fun h1 => ?_, fun h1 => ?_⟩
 · rw [upn_ne (Ne.symm h8)] at h1 ⊢; exact h.s8 h1
 · rw [upn_ne (Ne.symm h9)] at h1 ⊢; rw [upn_ne (Ne.symm h8)]; exact h.s9 h1
 · rw [upn_ne (Ne.symm h10)] at h1 ⊢; rw [upn_ne (Ne.symm h8), upn_ne (Ne.symm h11)]; exact h.s10 h1
theorem JL.c8 (h : JL W1 l xb pb a b c m S vs w) (h9 : S 9 = false) (h11 : S 11 = false) {g : Nat} (hg : Blk w' g 49 (acs (lendA l)).toArray) (hgw : w.heap.size ≤ g) (hb : Below w.heap.size w w') : JL W1 l xb pb a b c m (upn S 8 true) (upn vs 8 (.slice (some ⟨g, 0, none⟩) l.length (l.length + 9))) w' := by
 refine ⟨h.kn (fun d hd => by simp [K2] at hd), h.bl.trans (hb.mono h.bl.size), fun _ => ?_, fun h1 => ?_, fun h1 => ?_⟩
 · rw [upn_eq]; exact ⟨g, rfl, hg, Nat.le_trans h.bl.size hgw⟩
 · rw [upn_ne (by decide : (9 : Nat) ≠ 8), h9] at h1; cases h1
 · rw [upn_ne (by decide : (10 : Nat) ≠ 8)] at h1 ⊢
   obtain ⟨q, e1, e2, e3, _⟩ := h.s10 h1
   exact ⟨q, e1, e2, fun _ => (e3 h11).below hb (e3 h11).lt, fun h2 => (by rw [upn_ne (by decide : (11 : Nat) ≠ 8), h11] at h2; cases h2)⟩
theorem JL.c9 (h : JL W1 l xb pb a b c m S vs w) (h11 : S 11 = false) : JL W1 l xb pb a b c m (upn S 9 true) (upn vs 9 (.agg #[a, b, c, .slice none 0 0, vs 8])) w := by
 refine ⟨h.kn (fun d hd => by simp [K2] at hd), h.bl, fun h1 => ?_, fun _ => ?_, fun h1 => ?_⟩
 · rw [upn_ne (by decide : (8 : Nat) ≠ 9)] at h1 ⊢; exact h.s8 h1
 · rw [upn_eq, upn_ne (by decide : (8 : Nat) ≠ 9)]
 · rw [upn_ne (by decide : (10 : Nat) ≠ 9)] at h1 ⊢; rw [upn_ne (by decide : (8 : Nat) ≠ 9), upn_ne (by decide : (11 : Nat) ≠ 9)]; exact h.s10 h1
theorem JL.c10 (h : JL W1 l xb pb a b c m S vs w) (h11 : S 11 = false) : JL W1 l xb pb a b c m (upn S 10 true) (upn vs 10 (.pointer (some ⟨w.heap.size, 0, none⟩))) (w.alloc (.cells nil5 28)) := by
 refine ⟨h.kn (fun d hd => by simp [K2] at hd), h.bl.alloc h.bl.size _, fun h1 => ?_, fun h1 => ?_, fun _ => ?_⟩
 · rw [upn_ne (by decide : (8 : Nat) ≠ 10)] at h1 ⊢
   obtain ⟨g, e1, e2, e3⟩ := h.s8 h1
   exact ⟨g, e1, e2.alloc _, e3⟩
 · rw [upn_ne (by decide : (9 : Nat) ≠ 10)] at h1 ⊢; rw [upn_ne (by decide : (8 : Nat) ≠ 10)]; exact h.s9 h1
 · rw [upn_eq]
   exact ⟨_, rfl, h.bl.size, fun _ => Blk.new _ _ _, fun h2 => (by rw [upn_ne (by decide : (11 : Nat) ≠ 10), h11] at h2; cases h2)⟩
theorem JL.c11 (h : JL W1 l xb pb a b c m S vs w) (h11 : S 11 = false) (h10 : S 10 = true) (h8 : S 8 = true) (h9 : S 9 = true) {q : Nat} (hq : vs 10 = .pointer (some ⟨q, 0, none⟩)) :
   JL W1 l xb pb a b c m (upn S 11 true) (upn vs 11 d) (((((w.setCell ⟨q, 0, none⟩ a).setCell ⟨q, 1, none⟩ b).setCell ⟨q, 2, none⟩ c).setCell ⟨q, 3, none⟩ (.slice none 0 0)).setCell ⟨q, 4, none⟩ (vs 8)) := by
 obtain ⟨q', e1, e2, e3, _⟩ := h.s10 h10
 have e0 : q' = q := by
   rw [e1] at hq
   injection hq with hq
   injection hq with hq
   injection hq
 subst e0
 have hbk := e3 h11
 have ho : Only (fun k => k = q') w (((((w.setCell ⟨q', 0, none⟩ a).setCell ⟨q', 1, none⟩ b).setCell ⟨q', 2, none⟩ c).setCell ⟨q', 3, none⟩ (.slice none 0 0)).setCell ⟨q', 4, none⟩ (vs 8)) :=
   (((((Only.refl (fun k => k = q') w).setCell (p := ⟨q', 0, none⟩) (.inl rfl) _).setCell (p := ⟨q', 1, none⟩) (.inl rfl) _).setCell (p := ⟨q', 2, none⟩) (.inl rfl) _).setCell (p := ⟨q', 3, none⟩) (.inl rfl) _).setCell (p := ⟨q', 4, none⟩) (.inl rfl) _
 refine ⟨h.kn (fun d hd => by simp [K2] at hd), h.bl.trans (ho.below (fun k hk => by rw [hk]; exact e2) h.bl.size), fun _ => ?_, fun _ => ?_, fun _ => ?_⟩
 · rw [upn_ne (by decide : (8 : Nat) ≠ 11)]
   obtain ⟨g, f1, f2, f3⟩ := h.s8 h8
   exact ⟨g, f1, f2.only ho (f2.ne_ hbk (by decide)), f3⟩
 · rw [upn_ne (by decide : (9 : Nat) ≠ 11), upn_ne (by decide : (8 : Nat) ≠ 11)]; exact h.s9 h9
 · rw [upn_ne (by decide : (10 : Nat) ≠ 11), upn_ne (by decide : (8 : Nat) ≠ 11)]
   refine ⟨q', e1, e2, fun h1 => (by rw [upn_eq] at h1; cases h1), fun _ => ?_⟩
   exact ((((hbk.set_ 0 a).set_ 1 b).set_ 2 c).set_ 3 (.slice none 0 0)).set_ 4 (vs 8)
theorem JL.start (W1 : World) (l : List Ac) (xb pb : Nat) (a b c m : Value) (vs : Nat → Value) : JL W1 l xb pb a b c m (fun i => decide (12 ≤ i)) vs W1.drew := by
 refine ⟨fun k c hk hS => ?_, (Below.refl _ W1).drew, fun h9 => ?_, fun h9 => ?_, fun h9 => ?_⟩
 · simp at hS
   obtain ⟨m, rfl⟩ : ∃ m, k = m + 12 := ⟨k - 12, by omega⟩
   simp [K2] at hk
 all_goals simp at h9
end
end Go.Proofs.Ytdpokdcendgfeaa
namespace Go.Proofs.Ytdpokdcendgfeaa
open Go.RowKit
attribute [local go_sem] par parUpon
theorem make_rows (w : World) (n : Nat) (h : n ≤ 2097152) : (Instr.makeSlice 25 (.int .i64 (n : Int)) (.int .i64 (n : Int))).run Try.prog w = .ok (.slice (some ⟨w.heap.size, 0, none⟩) n n) (w.alloc (.cells (List.replicate n (Value.slice none 0 0)).toArray 26)) := by
 obtain ⟨i0, hi, hz0, hz1, hz2⟩ := info_parts3 infS
 have := run_make_rowN (P := Try.prog) 25 26 i0 (.slice none 0 0) Try.underlying25 hi hz0 .i64 .i64 n n (Nat.le_refl _) (by rw [hz2]; omega) (by omega) w
 rw [hz1, made_const (v := .slice none 0 0) (by simp [Value.cells]) (by simp [Value.cells])] at this
 simpa using this
theorem slv_set (es : List Nat) (ls : List (List Ac)) (n : Nat) (g : Nat) (l : List Ac) (h : es.length = ls.length) : (slv (lrs es ls) ls ++ List.replicate (n + 1) (Value.slice none 0 0)).toArray.setIfInBounds ls.length (.slice (some ⟨g, 0, none⟩) l.length (l.length + 9)) = (slv (lrs (es ++ [g]) (ls ++ [l])) (ls ++ [l]) ++ List.replicate n (Value.slice none 0 0)).toArray := by
 rw [lrs_append es ls g l h, slv_append _ _ _ _ (lrs_length es ls h)]
 apply Array.ext'
 simp only [Array.toList_setIfInBounds]
 have hl : (slv (lrs es ls) ls).length = ls.length := slv_length _ _ (lrs_length es ls h)
 rw [List.set_append, if_neg (by omega), hl, Nat.sub_self, List.replicate_succ]
 simp
theorem lend_fin {w0 W5 Wi : World} {B B1 gg gv gt go gcd gl gm qb rb : Nat} {es : List Nat} {P : Pl} {P' : Prg} {C D E : Array Value} {a b c d e f : Value} (hP : P'.gh = P.gh ∧ P'.vs = P.vs ∧ P'.ts = P.ts) (hlt : Lent W5 B1 gg gv gt go gcd P') (hm : Blk W5 gm 49 (acs (lendA P.ms)).toArray) (he : LEv Wi gm es P.on)
   (hl5 : Blk W5 gl 26 E) (hl : Blk Wi gl 26 (slv (lrs es P.on) P.on ++ List.replicate 2 (Value.slice none 0 0)).toArray) (hq : Blk Wi qb 28 C) (hr : Blk Wi rb 28 D) (hon : Only (fun k => k = gl) W5 Wi) (hgl : gm < gl ∧ B ≤ gl) (hqr : B ≤ qb ∧ B ≤ rb) (hb1 : B ≤ gg ∧ B ≤ gv ∧ B ≤ gt) (hbm : B ≤ gm) (hw : Below B w0 W5) :
   LentP ((((((Wi.setCell ⟨qb, 3, none⟩ a).setCell ⟨rb, 0, none⟩ b).setCell ⟨rb, 1, none⟩ c).setCell ⟨rb, 2, none⟩ d).setCell ⟨rb, 3, none⟩ e).setCell ⟨rb, 4, none⟩ f) B gg gv gt gl gm es P ∧ Below B w0 ((((((Wi.setCell ⟨qb, 3, none⟩ a).setCell ⟨rb, 0, none⟩ b).setCell ⟨rb, 1, none⟩ c).setCell ⟨rb, 2, none⟩ d).setCell ⟨rb, 3, none⟩ e).setCell ⟨rb, 4, none⟩ f) := by
 have hon2 : Only (fun k => k = qb ∨ k = rb) Wi ((((((Wi.setCell ⟨qb, 3, none⟩ a).setCell ⟨rb, 0, none⟩ b).setCell ⟨rb, 1, none⟩ c).setCell ⟨rb, 2, none⟩ d).setCell ⟨rb, 3, none⟩ e).setCell ⟨rb, 4, none⟩ f) :=
   ((((((Only.refl (fun k => k = qb ∨ k = rb) Wi).setCell (p := ⟨qb, 3, none⟩) (.inl (.inl rfl)) _).setCell (p := ⟨rb, 0, none⟩) (.inl (.inr rfl)) _).setCell (p := ⟨rb, 1, none⟩) (.inl (.inr rfl)) _).setCell (p := ⟨rb, 2, none⟩) (.inl (.inr rfl)) _).setCell (p := ⟨rb, 3, none⟩) (.inl (.inr rfl)) _).setCell (p := ⟨rb, 4, none⟩) (.inl (.inr rfl)) _
 obtain ⟨p1, p2, p3⟩ := hP
 have k2 : ∀ {g : Nat} {t : TypeId} {cs : Array Value}, t ≠ 28 → Blk Wi g t cs → Blk ((((((Wi.setCell ⟨qb, 3, none⟩ a).setCell ⟨rb, 0, none⟩ b).setCell ⟨rb, 1, none⟩ c).setCell ⟨rb, 2, none⟩ d).setCell ⟨rb, 3, none⟩ e).setCell ⟨rb, 4, none⟩ f) g t cs := fun ht h9 => h9.only hon2 (fun h8 => by
   rcases h8 with h8 | h8
   · exact h9.ne_ hq ht h8
   · exact h9.ne_ hr ht h8)
 have k0 : ∀ {g : Nat} {t : TypeId} {cs : Array Value}, t ≠ 26 → Blk W5 g t cs → Blk Wi g t cs := fun ht h9 => h9.only hon (h9.ne_ hl5 ht)
 refine ⟨⟨k2 (by decide) (k0 (by decide) (p1 ▸ hlt.g)), k2 (by decide) (k0 (by decide) (p2 ▸ hlt.v)), k2 (by decide) (k0 (by decide) (p3 ▸ hlt.t)), k2 (by decide) hl, k2 (by decide) (k0 (by decide) hm), he.keep (fun _ h9 => k2 (by decide) h9), hb1.1, hb1.2.1, hb1.2.2, hgl.2, hbm⟩, ?_⟩
 have hBW : B ≤ W5.heap.size := by have := hm.lt; omega
 exact (hw.trans (hon.below (fun k hk => by rw [hk]; exact hgl.2) hBW)).trans (hon2.below (fun k hk => by rcases hk with h9 | h9 <;> rw [h9]; exact hqr.1; exact hqr.2) (Nat.le_trans hBW hon.size))
set_option maxRecDepth 100000 in
theorem lendPlan_i (w : World) (q : PlV) (P : Pl) (rs : List (Option Addr × Nat)) (h : PlMem w q P rs) (hl : P.gh.length ≤ 1048576 ∧ P.vs.length ≤ 1048576 ∧ P.ts.length ≤ 1048576 ∧ P.on.length ≤ 1048576) (hb : ∀ l ∈ P.on ++ [P.ms], l.length ≤ 1048576) :
   Calls Try.prog 14 #[q.val] w fun en w' => ∃ gg gv gt gl gm es, en = .returned (lentPl gg gv gt gl gm P).val ∧ LentP w' w.heap.size gg gv gt gl gm es P ∧ Below w.heap.size w w' := by
 have HRES := hide (show Try.f14.results = #[.cell 2 28] by kernel_rfl)
 have HM0 := hide h
 have hrl := h.e.1
 simp only [List.length_append, List.length_cons, List.length_nil] at hrl
 obtain ⟨l1, l2, l3, l4⟩ := hl
 have HLP := hide (fun (W : World) (hw : Below w.heap.size w W) => lendProgram_i W ⟨q.ga, q.va, q.ta, none, none, P.gh.length, q.gc, P.vs.length, q.vc, P.ts.length, q.tc, 0, 0, 0, 0, 0⟩ ⟨P.gh, P.vs, P.ts, [], 0, []⟩ ⟨rfl, rfl, rfl, rfl, rfl, rfl, (h.below hw).g, by rw [varsV_eq]; exact (h.below hw).v, (h.below hw).t, src_nil _ _, src_nil _ _, by unfold maxLen; simp; omega⟩ (by simp; omega))
 obtain ⟨e1, e2, e3, e4, e5, _, _, _, _, _, _⟩ := h
 obtain ⟨ga, va, ta, oa, ma, gl, gc, vl, vc, tl, tc, ol, oc, ml, mc⟩ := q
 simp only at e1 e2 e3 e4 e5
 subst e1 e2 e3 e4 e5
 simp only [PlV.val, PV.val, lentPV, List.length_nil, Nat.zero_add, lentPl] at HLP ⊢
 have hms := hb P.ms (by simp)
 have HBIG := hide (fun (l : List Ac) (hl : l ∈ P.on) => hb l (List.mem_append_left _ hl))
 obtain ⟨N, hN⟩ : ∃ N, P.on.length = N := ⟨_, rfl⟩
 obtain ⟨M, hM⟩ : ∃ M, P.ms.length = M := ⟨_, rfl⟩
 rw [hN] at l4 hrl
 rw [hM] at hms
 have HN := hide hN
 have HMS := hide hM
 have HRL := hide (show rs.length = N by omega)
 have HW1 := hide (show Below w.heap.size w ((w.alloc (.cells #[.slice ga P.gh.length gc, .slice va P.vs.length vc, .slice ta P.ts.length tc, .slice oa N oc, .slice ma M mc] 28)).alloc (.cells #[.slice none 0 0, .slice none 0 0, .slice none 0 0, .slice none 0 0, .slice none 0 0] 28)) from ((Below.refl _ w).alloc (Nat.le_refl _) _).alloc (by simp) _)
 have HP1 := hide ((Blk.new w 28 #[.slice ga P.gh.length gc, .slice va P.vs.length vc, .slice ta P.ts.length tc, .slice oa N oc, .slice ma M mc]).alloc (.cells #[.slice none 0 0, .slice none 0 0, .slice none 0 0, .slice none 0 0, .slice none 0 0] 28))
 have hr1 := Blk.new (w.alloc (.cells #[.slice ga P.gh.length gc, .slice va P.vs.length vc, .slice ta P.ts.length tc, .slice oa N oc, .slice ma M mc] 28)) 28 #[.slice none 0 0, .slice none 0 0, .slice none 0 0, .slice none 0 0, .slice none 0 0]
 have hs1 : (w.alloc (.cells #[.slice ga P.gh.length gc, .slice va P.vs.length vc, .slice ta P.ts.length tc, .slice oa N oc, .slice ma M mc] 28)).heap.size = w.heap.size + 1 := by simp
 rw [hs1] at hr1
 have HR1 := hide hr1
 have u1 := IntWalk.i64_in ((N : Int) + 2) (by omega)
 rw [hN, hM]
 have hl1 := HM0.out.l
 clear hrl hN hM hb hr1 hs1 hl1
 go_enter Try.func14, Try.ntmps14
 go_upto_region 1 with fail
 generalize ((w.alloc (.cells #[.slice ga P.gh.length gc, .slice va P.vs.length vc, .slice ta P.ts.length tc, .slice oa N oc, .slice ma M mc] 28)).alloc (.cells #[.slice none 0 0, .slice none 0 0, .slice none 0 0, .slice none 0 0, .slice none 0 0] 28)) = W1 at HW1 HP1 HR1
 obtain ⟨rb, hrb⟩ : ∃ rb, w.heap.size + 1 = rb := ⟨_, rfl⟩
 rw [hrb]
 replace HR1 : Hid (Blk W1 rb _ _) := hrb ▸ HR1
 have hpr : w.heap.size ≠ rb := by omega
 have hpr2 := Ne.symm hpr
 have HRB := hide hrb
 clear hrb
 obtain ⟨p0, p1, p2, p3, p4, _⟩ := blk5 HP1.out
 have hc := HLP.out W1 HW1.out
 clear HLP
 go_upto_region 2 with (
   go_at_call 23
   with_reducible refine hc.mono ?_
   rintro en W2 ⟨gg, gv, gt, go, gcd, rfl, hlt, hb2⟩
   have HLT := hide hlt
   have HB2 := hide hb2
   clear hlt hb2)
 clear p0 p1 p2 p3 p4 hc
 have HB3 := hide ((Below.refl W2.heap.size W2).alloc (Nat.le_refl _) (.cells #[.slice (some ⟨gg, 0, none⟩) P.gh.length (P.gh.length + 3), .slice (some ⟨gv, 0, none⟩) P.vs.length (P.vs.length + 3), .slice (some ⟨gt, 0, none⟩) P.ts.length (P.ts.length + 5), .slice (some ⟨go, 0, none⟩) 0 5, .int .i64 0, .slice (some ⟨gcd, 0, none⟩) 0 9] 34))
 have HX3 := hide (Blk.new W2 34 #[.slice (some ⟨gg, 0, none⟩) P.gh.length (P.gh.length + 3), .slice (some ⟨gv, 0, none⟩) P.vs.length (P.vs.length + 3), .slice (some ⟨gt, 0, none⟩) P.ts.length (P.ts.length + 5), .slice (some ⟨go, 0, none⟩) 0 5, .int .i64 0, .slice (some ⟨gcd, 0, none⟩) 0 9])
 generalize W2.alloc (.cells #[.slice (some ⟨gg, 0, none⟩) P.gh.length (P.gh.length + 3), .slice (some ⟨gv, 0, none⟩) P.vs.length (P.vs.length + 3), .slice (some ⟨gt, 0, none⟩) P.ts.length (P.ts.length + 5), .slice (some ⟨go, 0, none⟩) 0 5, .int .i64 0, .slice (some ⟨gcd, 0, none⟩) 0 9] 34) = W3 at HB3 HX3
 generalize W2.heap.size = xb at HX3
 have HB13 := hide (HB2.out.trans (HB3.out.mono (HB2.out.size)))
 have HP3 := hide (HP1.out.below HB13.out HP1.out.lt)
 have HR3 := hide (HR1.out.below HB13.out HR1.out.lt)
 have HLT3 := hide (HLT.out.below HB3.out)
 have HM3 := hide (HM0.out.below (HW1.out.trans (HB13.out.mono HW1.out.size)))
 have HW3 := hide (HW1.out.trans (HB13.out.mono HW1.out.size))
 obtain ⟨p0, p1, p2, p3, p4, _⟩ := blk5 HP3.out
 obtain ⟨x0, x1, x2, x3, x4, x5, _⟩ := blk6 HX3.out
 have hpl := HP3.out.lt
 have hxl := HX3.out.lt
 have HSM := hide ((HM3.out.e.2 N ma mc P.ms (by rw [← HRL.out]; simp) (by rw [← HN.out]; simp)).1)
 skip
 refine wp_region_par (JL W3 P.ms xb w.heap.size (.slice (some ⟨gg, 0, none⟩) P.gh.length (P.gh.length + 3)) (.slice (some ⟨gv, 0, none⟩) P.vs.length (P.vs.length + 3)) (.slice (some ⟨gt, 0, none⟩) P.ts.length (P.ts.length + 5)) (.slice ma M mc)) [[], [0], [], [2], [], [4], [], [6], [6, 7], [1, 3, 5, 8], [], [0, 1, 2, 3, 4, 5, 6, 7, 8, 9, 10]] (by kernel_rfl) (by kernel_rfl) (fun vs => JL.start _ _ _ _ _ _ _ _ vs) (fun vs => ?_)
 refine wpPar_step0 rfl (fun S w' hS hA hD hJ R hR => ?_) (fun K hK => ?_)
 · go_simp
   exact hR _ _ (hJ.known (by decide) rfl)
 go_simp
 refine hK _ ?_
 clear hK K
 refine wpPar_step0 rfl (fun S w' hS hA hD hJ R hR => ?_) (fun K hK => ?_)
 · have k0 : vs 0 = _ := hJ.k 0 _ rfl (hA 0 (by decide))
   have hc := (hJ.bl.cell (p := ⟨xb, 0, none⟩) hxl).trans x0
   simp only [k0]
   go_simp
   exact hR _ _ (hJ.known (by decide) rfl)
 go_simp
 refine hK _ ?_
 clear hK K
 refine wpPar_step0 rfl (fun S w' hS hA hD hJ R hR => ?_) (fun K hK => ?_)
 · go_simp
   exact hR _ _ (hJ.known (by decide) rfl)
 go_simp
 refine hK _ ?_
 clear hK K
 refine wpPar_step0 rfl (fun S w' hS hA hD hJ R hR => ?_) (fun K hK => ?_)
 · have k2 : vs 2 = _ := hJ.k 2 _ rfl (hA 2 (by decide))
   have hc := (hJ.bl.cell (p := ⟨xb, 1, none⟩) hxl).trans x1
   simp only [k2]
   go_simp
   exact hR _ _ (hJ.known (by decide) rfl)
 go_simp
 refine hK _ ?_
 clear hK K
 refine wpPar_step0 rfl (fun S w' hS hA hD hJ R hR => ?_) (fun K hK => ?_)
 · go_simp
   exact hR _ _ (hJ.known (by decide) rfl)
 go_simp
 refine hK _ ?_
 clear hK K
 refine wpPar_step0 rfl (fun S w' hS hA hD hJ R hR => ?_) (fun K hK => ?_)
 · have k4 : vs 4 = _ := hJ.k 4 _ rfl (hA 4 (by decide))
   have hc := (hJ.bl.cell (p := ⟨xb, 2, none⟩) hxl).trans x2
   simp only [k4]
   go_simp
   exact hR _ _ (hJ.known (by decide) rfl)
 go_simp
 refine hK _ ?_
 clear hK K
 refine wpPar_step0 rfl (fun S w' hS hA hD hJ R hR => ?_) (fun K hK => ?_)
 · go_simp
   exact hR _ _ (hJ.known (by decide) rfl)
 go_simp
 refine hK _ ?_
 clear hK K
 refine wpPar_step0 rfl (fun S w' hS hA hD hJ R hR => ?_) (fun K hK => ?_)
 · have k6 : vs 6 = _ := hJ.k 6 _ rfl (hA 6 (by decide))
   have hc := (hJ.bl.cell (p := ⟨w.heap.size, 4, none⟩) hpl).trans p4
   simp only [k6]
   go_simp
   exact hR _ _ (hJ.known (by decide) rfl)
 go_simp
 refine hK _ ?_
 clear hK K
 refine wpPar_step0 rfl (fun S w' hS hA hD hJ R hR => ?_) (fun K hK => ?_)
 · have h11 : S 11 = false := hD 11 (by decide) (by decide)
   have k6 : vs 6 = _ := hJ.k 6 _ rfl (hA 6 (by decide))
   have k7 : vs 7 = _ := hJ.k 7 _ rfl (hA 7 (by decide))
   have h9 : S 9 = false := hD 9 (by decide) (by decide)
   have hc := lendActs_i w' ma mc P.ms (HSM.out.below hJ.bl) (by rw [HMS.out]; exact hms)
   rw [HMS.out] at hc
   have hfin := hc.mono (fun en w'' hh => show ∃ u, en = .returned u ∧ R u w'' from (by obtain ⟨g, e1, e2, e3, e4⟩ := hh; have h8 := hR _ _ (hJ.c8 h9 h11 e2 e3 e4); rw [HMS.out] at h8; exact ⟨_, e1, h8⟩))
   refine par_call 42 (.tmp 22) 26 (by rfl) Try.f42 Try.func42 (by decide) (by unfold Try.f42; simp) (.slice ma M mc) ?_ hfin
   exact k7
 go_simp
 refine hK _ ?_
 clear hK K
 refine wpPar_step0 rfl (fun S w' hS hA hD hJ R hR => ?_) (fun K hK => ?_)
 · have h11 : S 11 = false := hD 11 (by decide) (by decide)
   have k1 : vs 1 = _ := hJ.k 1 _ rfl (hA 1 (by decide))
   have k3 : vs 3 = _ := hJ.k 3 _ rfl (hA 3 (by decide))
   have k5 : vs 5 = _ := hJ.k 5 _ rfl (hA 5 (by decide))
   obtain ⟨g8, e8, _, _⟩ := hJ.s8 (hA 8 (by decide))
   have hfin := hR _ _ (hJ.c9 h11)
   rw [HMS.out] at e8
   rw [e8] at hfin
   simp only [k1, k3, k5, e8]
   go_simp
   exact hfin
 go_simp
 refine hK _ ?_
 clear hK K
 refine wpPar_step0 rfl (fun S w' hS hA hD hJ R hR => ?_) (fun K hK => ?_)
 · have h11 : S 11 = false := hD 11 (by decide) (by decide)
   have hfin := hR _ _ (hJ.c10 h11)
   go_simp
   exact hfin
 go_simp
 refine hK _ ?_
 clear hK K
 refine wpPar_step0 rfl (fun S w' hS hA hD hJ R hR => ?_) (fun K hK => ?_)
 · have h11 : S 11 = false := hS
   obtain ⟨g8, e8, _, _⟩ := hJ.s8 (hA 8 (by decide))
   have e9 := hJ.s9 (hA 9 (by decide))
   obtain ⟨qb, e10, hq1, hq2, _⟩ := hJ.s10 (hA 10 (by decide))
   obtain ⟨z0, z1, z2, z3, z4, y0, y1, y2, y3, y4⟩ := blk5 (hq2 h11)
   have hfin := hR _ _ (hJ.c11 (d := undef) h11 (hA 10 (by decide)) (hA 8 (by decide)) (hA 9 (by decide)) e10)
   rw [HMS.out] at e8
   rw [e8] at hfin e9
   clear hq2
   simp only [e9, e10]
   go_simp
   exact hfin
 go_simp
 refine hK _ ?_
 clear hK K
 refine wpPar_nil (fun W4 hJ => ?_)
 obtain ⟨qb, e10, hq1, _, hq2⟩ := hJ.s10 rfl
 obtain ⟨gm, e8, hg8, hg9⟩ := hJ.s8 rfl
 have hq3 := hq2 rfl
 rw [e8] at hq3
 have HB4 := hide hJ.bl
 have HQ4 := hide hq3
 have HG4 := hide hg8
 have HGM := hide hg9
 have HQ1 := hide hq1
 simp only [e10]
 clear hJ hq2 hq1 hq3 e8 e10 hg8 hg9 p0 p1 p2 p3 p4 x0 x1 x2 x3 x4 x5 hpl hxl
 have HP4 := hide (HP3.out.below HB4.out HP3.out.lt)
 have HR4 := hide (HR3.out.below HB4.out HR3.out.lt)
 have HLT4 := hide (HLT3.out.below HB4.out)
 have HM4 := hide (HM3.out.below HB4.out)
 have HW4 := hide (HW3.out.trans (HB4.out.mono HW3.out.size))
 have hmk : ∀ W : World, (Instr.makeSlice 25 (.int .i64 ((N : Int) + 2)) (.int .i64 ((N : Int) + 2))).run Try.prog W = .ok (.slice (some ⟨W.heap.size, 0, none⟩) (N + 2) (N + 2)) (W.alloc (.cells (List.replicate (N + 2) (Value.slice none 0 0)).toArray 26)) := fun W => by have := make_rows W (N + 2) (by omega); simpa using this
 obtain ⟨p0, p1, p2, p3, p4, _⟩ := blk5 HP4.out
 go_upto_region 4 with fail
 clear p0 p1 p2 p3 p4 hmk
 have HB5 := hide ((Below.refl W4.heap.size W4).alloc (Nat.le_refl _) (.cells (Array.replicate (N + 2) (Value.slice none 0 0)) 26))
 have HL5 := hide (Blk.new W4 26 (Array.replicate (N + 2) (Value.slice none 0 0)))
 have hgml := HG4.out.lt
 generalize W4.alloc (.cells (Array.replicate (N + 2) (Value.slice none 0 0)) 26) = W5 at HB5 HL5
 generalize hgl : W4.heap.size = gl at HL5 hgml
 have HGL := hide (show gm < gl ∧ w.heap.size ≤ gl from ⟨hgml, by rw [← hgl]; exact HW4.out.size⟩)
 have HGL4 := hide hgl
 clear hgl hgml
 skip
 have HP5 := hide (HP4.out.below HB5.out HP4.out.lt)
 have HR5 := hide (HR4.out.below HB5.out HR4.out.lt)
 have HQ5 := hide (HQ4.out.below HB5.out HQ4.out.lt)
 have HLT5 := hide (HLT4.out.below HB5.out)
 have HM5 := hide (HM4.out.below HB5.out)
 have HG5 := hide (HG4.out.below HB5.out HG4.out.lt)
 have HW5 := hide (HW4.out.trans (HB5.out.mono HW4.out.size))
 have HPG := hide (show w.heap.size ≠ gl from HP5.out.ne_ HL5.out (by decide))
 have HRG := hide (show rb ≠ gl from HR5.out.ne_ HL5.out (by decide))
 have HQG := hide (show qb ≠ gl from HQ5.out.ne_ HL5.out (by decide))
 go_wp2_with fail
 go_loopw [6] (fun t6 Wi => ∃ (i : Nat) (es : List Nat), t6 = .int .i64 (i : Int) ∧ i ≤ N ∧ LEv Wi gm es (P.on.take i) ∧ (∀ e ∈ es, gl < e ∧ e < Wi.heap.size) ∧ Blk Wi gl 26 (slv (lrs es (P.on.take i)) (P.on.take i) ++ List.replicate (N - i + 2) (Value.slice none 0 0)).toArray ∧ Only (fun k => k = gl) W5 Wi) (fun t6 _ => N - (intOf t6).toNat)
 case atStart => exact ⟨0, [], rfl, Nat.zero_le _, LEv.nil _ _, fun e he => by simp at he, by have h9 := HL5.out; simpa [slv, lrs] using h9, Only.refl _ _⟩
 case round =>
   obtain ⟨i, es, rfl, hi, hev, hes, hbl, hon⟩ := hrel
   rename World => Wi
   have HEV := hide hev
   have HES := hide hes
   have HBL := hide hbl
   have HON := hide hon
   have hq2 := IntWalk.i64_in ((i : Int) + 1) (by omega)
   obtain ⟨p0, p1, p2, p3, p4, _⟩ := blk5 (HP5.out.only hon HPG.out)
   have HMI := hide (show PlMem Wi ⟨ga, va, ta, oa, ma, P.gh.length, gc, P.vs.length, vc, P.ts.length, tc, P.on.length, oc, P.ms.length, mc⟩ P rs from HM0.out.below (HW5.out.trans (hon.below (fun k hk => by rw [hk]; exact HGL.out.2) HW5.out.size)))
   clear hev hes hbl hon
   by_cases hil : i < N
   · have hiI : (i : Int) < (N : Int) := by omega
     have hiI2 : (i : Int) < (N : Int) + 2 := by omega
     have hiN2 : i < N + 2 := by omega
     obtain ⟨l, hl⟩ : ∃ l, P.on[i]? = some l := ⟨_, List.getElem?_eq_getElem (by rw [HN.out]; exact hil)⟩
     obtain ⟨⟨ra, rc⟩, hr⟩ : ∃ r, rs[i]? = some r := ⟨_, List.getElem?_eq_getElem (by rw [HRL.out]; exact hil)⟩
     obtain ⟨ad, e, hab, q0⟩ := src_get HMI.out.o (i := i) (v := .slice ra l.length rc) (by rw [HN.out]; omega) (slv_get _ _ i _ _ hr hl)
     simp only at e
     subst e
     have hsl := (HMI.out.e.2 i ra rc l (by rw [List.getElem?_append_left (by rw [HRL.out]; exact hil)]; exact hr) (by rw [List.getElem?_append_left (by rw [HN.out]; exact hil)]; exact hl)).1
     have hc := lendActs_i Wi ra rc l hsl (HBIG.out l (List.mem_of_getElem? hl))
     have HTK := hide (show P.on.take (i + 1) = P.on.take i ++ [l] from by rw [List.take_add_one, hl]; rfl)
     have HTL := hide (show (P.on.take i).length = i from by rw [List.length_take, HN.out]; omega)
     clear hl hr hab hsl
     go_wp2_with (
       go_at_call 42
       with_reducible refine hc.mono ?_
       rintro en W6 ⟨g, rfl, hg, hgw, hb6⟩
       have HG6 := hide hg
       have HGW := hide hgw
       have HB6 := hide hb6
       have hbl6 := HBL.out.below hb6 HBL.out.lt
       obtain ⟨y9, hy9⟩ : ∃ y, W6.cell? ⟨gl, i, none⟩ = some y := ⟨_, by rw [hbl6.cell]; exact Array.getElem?_eq_getElem (by have h8 := HTL.out; have h7 := HEV.out.n; simp only [List.size_toArray, List.length_append, List.length_replicate]; rw [slv_length _ _ (lrs_length _ _ h7)]; omega)⟩
       have hf9 := hbl6.frozen i
       have HBL6 := hide hbl6
       clear hg hgw hb6 hbl6)
     clear hc hy9 hf9
     have HEV7 := hide (HEV.out.keep (w' := W6.setCell ⟨gl, i, none⟩ (.slice (some ⟨g, 0, none⟩) l.length (l.length + 9))) (fun hg h9 => ((h9.below HB6.out h9.lt).far (fun e => by have h8 := (HES.out _ hg).1; simp at e; omega) _)))
     have hgl6 := HGL.out
     have hglw := HBL.out.lt
     have hgw := HGW.out
     have HG7 := hide (HG6.out.far (p := ⟨gl, i, none⟩) (by simp; omega) (.slice (some ⟨g, 0, none⟩) l.length (l.length + 9)))
     have HEV8 := hide (HEV7.out.more HG7.out (by omega) (fun e he => by have h8 := (HES.out e he).2; omega))
     have hset := HBL6.out.set_ i (.slice (some ⟨g, 0, none⟩) l.length (l.length + 9))
     have hnn : N - i + 2 = (N - (i + 1) + 2) + 1 := by omega
     rw [hnn] at hset
     have hset2 := slv_set es (P.on.take i) (N - (i + 1) + 2) g l HEV.out.n
     rw [HTL.out] at hset2
     rw [hset2] at hset
     rw [← HTK.out] at hset
     have HSET := hide hset
     have HEV9 := hide (show LEv (W6.setCell ⟨gl, i, none⟩ (.slice (some ⟨g, 0, none⟩) l.length (l.length + 9))) gm (es ++ [g]) (P.on.take (i + 1)) from by rw [HTK.out]; exact HEV8.out)
     have HON7 := hide ((HON.out.trans ((Only.of_new HB6.out).mono (fun k hk => .inl hk))).setCell (p := ⟨gl, i, none⟩) (.inl rfl) (.slice (some ⟨g, 0, none⟩) l.length (l.length + 9)))
     have HES7 := hide (show ∀ e ∈ es ++ [g], gl < e ∧ e < W6.heap.size from fun e he => by rcases List.mem_append.1 he with h8 | h8; exact ⟨(HES.out e h8).1, by have := (HES.out e h8).2; have := HB6.out.size; omega⟩; simp at h8; rw [h8]; exact ⟨by omega, HG6.out.lt⟩)
     clear hset hset2 hnn hgl6 hglw hgw
     skip
     go_roundw
     case rel => exact ⟨i + 1, es ++ [g], by go_num, by omega, HEV9.out, fun e he => ⟨(HES7.out e he).1, by have := (HES7.out e he).2; simpa [World.setCell] using this⟩, HSET.out, HON7.out⟩
     case measure =>
       simp only [intOf]
       omega
   · have hie : i = N := by omega
     have hiI : ¬ (i : Int) < (N : Int) := by omega
     have hev2 := HEV.out
     have hbl2 := HBL.out
     rw [hie, List.take_of_length_le (by rw [HN.out]; exact Nat.le_refl _)] at hev2 hbl2
     rw [Nat.sub_self, Nat.zero_add] at hbl2
     have HEVF := hide hev2
     have HBLF := hide hbl2
     have HQI := hide (HQ5.out.only HON.out HQG.out)
     have HRI := hide (HR5.out.only HON.out HRG.out)
     obtain ⟨z0, z1, z2, z3, z4, y0, y1, y2, y3, y4⟩ := blk5 HQI.out
     obtain ⟨v0, v1, v2, v3, v4, r0, r1, r2, r3, r4⟩ := blk5 HRI.out
     have hqr : qb ≠ rb := by have h8 := HR3.out.lt; have h9 := HQ1.out; omega
     have hqr2 := Ne.symm hqr
     have hnle := Nat.le_add_right N 2
     have HQR := hide (show w.heap.size ≤ qb ∧ w.heap.size ≤ rb from ⟨by have h8 := HQ1.out; have h9 := HW3.out.size; omega, by have h9 := HRB.out; omega⟩)
     have HFIN := hide (fun a b c d e f => lend_fin (B := w.heap.size) (a := a) (b := b) (c := c) (d := d) (e := e) (f := f) (P := P) ⟨rfl, rfl, rfl⟩ HLT5.out HG5.out HEVF.out HL5.out HBLF.out HQI.out HRI.out HON.out HGL.out HQR.out (by have h8 := HW1.out.size; have h9 := HLT.out.base; omega) (by have h8 := HGM.out; have h9 := HW3.out.size; omega) HW5.out)
     clear hev2 hbl2 hie hil
     go_wp2_with fail
     refine bodyPost_ret (v := .agg #[.slice (some ⟨gg, 0, none⟩) P.gh.length (P.gh.length + 3), .slice (some ⟨gv, 0, none⟩) P.vs.length (P.vs.length + 3), .slice (some ⟨gt, 0, none⟩) P.ts.length (P.ts.length + 5), .slice (some ⟨gl, 0, none⟩) N (N + 2), .slice (some ⟨gm, 0, none⟩) P.ms.length (P.ms.length + 9)]) ?_ rfl ?_
     · simp only [results, HRES.out]
       go_simp
     have h9 := HFIN.out (.slice (some ⟨gl, 0, none⟩) N (N + 2)) (.slice (some ⟨gg, 0, none⟩) P.gh.length (P.gh.length + 3)) (.slice (some ⟨gv, 0, none⟩) P.vs.length (P.vs.length + 3)) (.slice (some ⟨gt, 0, none⟩) P.ts.length (P.ts.length + 5)) (.slice (some ⟨gl, 0, none⟩) N (N + 2)) (.slice (some ⟨gm, 0, none⟩) P.ms.length (P.ms.length + 9))
     rw [← HMS.out]
     exact ⟨gg, gv, gt, gl, gm, rfl, ⟨es, h9.1⟩, h9.2⟩
end Go.Proofs.Ytdpokdcendgfeaa
