/- Several texts in one: The walk of round: a number from 0 to n - 1. The walk of GenMany. Conditions: those of each. -/
import Derived.Test.YtdpokdcendgfeaaZ31
import Derived.Test.YtdpokdcendgfeaaZ32
set_option linter.unusedSimpArgs false
set_option linter.unusedVariables false
set_option maxHeartbeats 40000000
namespace Go.Proofs.Ytdpokdcendgfeaa
open Go.RowKit
set_option maxRecDepth 100000 in
theorem round_i (w : World) (a n : Int) (hn : 0 < n) (hm : n ≤ 1048576) :
   Calls Try.prog 22 #[.int .i64 a, .int .i64 n] w fun en w' => ∃ k : Nat, en = .returned (.int .i64 (k : Int)) ∧ (k : Int) < n ∧ w' = w := by
 have hz : (n == 0) = false := by simp; omega
 have hz2 : ¬ n = 0 := by omega
 go_enter Try.func22, Try.ntmps22
 have hlt := Int.tmod_lt_of_pos a hn
 have hgt := Int.lt_tmod_of_pos a hn
 by_cases h0 : a.tmod n < 0
 · have u1 := IntWalk.i64_in (a.tmod n + n) (by omega)
   have hk : (((a.tmod n + n).toNat : Nat) : Int) = a.tmod n + n := Int.toNat_of_nonneg (by omega)
   go_wp2_with fail
   go_ret
   exact ⟨(a.tmod n + n).toNat, by rw [hk]; rfl, by omega, rfl⟩
 · have hk : (((a.tmod n).toNat : Nat) : Int) = a.tmod n := Int.toNat_of_nonneg (by omega)
   go_wp2_with fail
   go_ret
   exact ⟨(a.tmod n).toNat, by rw [hk]; rfl, by omega, rfl⟩
end Go.Proofs.Ytdpokdcendgfeaa
namespace Go.Proofs.Ytdpokdcendgfeaa
open Go.RowKit
theorem al4 (w : World) (a b c d : Obj) : Below w.heap.size w ((((w.alloc a).alloc b).alloc c).alloc d) := by
 have h1 := (Below.refl w.heap.size w).alloc (Nat.le_refl _) a
 have h2 := h1.alloc h1.size b
 have h3 := h2.alloc h2.size c
 exact h3.alloc h3.size d
/-- so often one behind the other -/
def timesL (l : List Ac) : Nat → List Ac
 | 0 => []
 | m + 1 => timesL l m ++ l
theorem timesL_len (l : List Ac) : ∀ m, (timesL l m).length = m * l.length
 | 0 => by simp [timesL]
 | m + 1 => by simp only [timesL, List.length_append, timesL_len l m, Nat.add_mul, Nat.one_mul]
def manyP (l : List Ac) (m : Nat) : Pl := ⟨[false, true], [⟨0, 0, 9⟩], [3], [[], []], ⟨1, 0, 0, 0, 0, (m : Int)⟩ :: timesL l m⟩
def manyV (a : Nat) (oz : Option Addr) (n cz : Nat) : PlV := ⟨some ⟨a, 0, none⟩, some ⟨a + 1, 0, none⟩, some ⟨a + 2, 0, none⟩, some ⟨a + 3, 0, none⟩, oz, 2, 2, 1, 1, 1, 1, 2, 2, n, cz⟩
theorem many_mem {w : World} {a m cz : Nat} {oz : Option Addr} {l : List Ac} (h1 : Blk w a 4 #[.bool false, .bool true]) (h2 : Blk w (a + 1) 51 #[.int .i64 0, .int .i64 0, .int .i64 9]) (h3 : Blk w (a + 2) 3 #[.int .i64 3]) (h4 : Blk w (a + 3) 26 #[.slice none 0 0, .slice none 0 0])
   (h : Src w oz (1 + m * l.length) (acs (manyP l m).ms)) (hc : 1 + m * l.length ≤ cz) (hz : cz ≤ maxLen) : PlMem w (manyV a oz (1 + m * l.length) cz) (manyP l m) [(none, 0), (none, 0)] := by
 have hn : (manyP l m).ms.length = 1 + m * l.length := by simp only [manyP, List.length_cons, timesL_len]; omega
 refine ⟨rfl, rfl, rfl, rfl, hn.symm, src_blk 2 h1, src_blk 1 h2, src_blk 1 h3, src_blk 2 h4, ⟨rfl, fun i oa c l' e1 e2 => ?_⟩, by unfold maxLen; simp [manyP]⟩
 match i with
 | 0 =>
   simp [manyP] at e1 e2
   obtain ⟨rfl, rfl⟩ := e1
   subst e2
   exact ⟨src_nil _ _, Nat.le_refl _, by unfold maxLen; decide⟩
 | 1 =>
   simp [manyP] at e1 e2
   obtain ⟨rfl, rfl⟩ := e1
   subst e2
   exact ⟨src_nil _ _, Nat.le_refl _, by unfold maxLen; decide⟩
 | 2 =>
   have e3 : (manyP l m).ms = l' := by simpa [manyP] using e2
   simp [manyV] at e1
   obtain ⟨rfl, rfl⟩ := e1
   subst e3
   rw [hn]
   exact ⟨h, hc, hz⟩
 | i + 3 => simp at e1
set_option maxRecDepth 100000 in
theorem genMany_i (w : World) (oa : Option Addr) (cap : Nat) (l : List Ac) (a : Int) (h : Src w oa l.length (acs l)) (hl : l.length ≤ 1048576) (hlc : l.length ≤ cap) :
   Calls Try.prog 5 #[.slice oa l.length cap, .int .i64 a] w fun en w' => en = .returned (.bool true) ∧ Below w.heap.size w w' := by
 have HS := hide h
 obtain ⟨i3, hi3, hz0, hz1, hz2⟩ := info_parts3 infA
 have hcl := known_i w
 clear h
 obtain ⟨N, hN⟩ : ∃ N, l.length = N := ⟨_, rfl⟩
 rw [hN] at HS hl
 rw [hN]
 have HN := hide hN
 clear hN
 go_enter Try.func5, Try.ntmps5
 go_upto_region 3 with (
   go_at_call 12
   with_reducible refine hcl.mono ?_
   rintro en W1 ⟨rfl, hb1⟩
   have HB1 := hide hb1
   clear hb1)
 clear hcl
 by_cases h0 : N = 0
 · subst h0
   go_wp2_with fail
   go_ret
   exact ⟨rfl, HB1.out⟩
 have h0I : ¬ (N : Int) = 0 := by omega
 by_cases h40 : 40 < N
 · have h40I : (40 : Int) < (N : Int) := by omega
   go_wp2_with fail
   go_ret
   exact ⟨rfl, HB1.out⟩
 have h40I : ¬ (40 : Int) < (N : Int) := by omega
 obtain ⟨D, hD⟩ : ∃ D, 131072 / N = D := ⟨_, rfl⟩
 have hDN : D * N ≤ 131072 := by rw [← hD]; exact Nat.div_mul_le_self _ _
 have hDb : D ≤ 131072 := by rw [← hD]; exact Nat.div_le_self _ _
 have hdiv : (131072 : Int).tdiv (N : Int) = (D : Int) := by rw [← hD]; rfl
 have u1 := IntWalk.i64_in ((D : Int) + 3) (by omega)
 have u2 := IntWalk.i64_in ((D : Int)) (by omega)
 have hc := round_i W1 a ((D : Int) + 3) (by omega) (by omega)
 clear hD
 go_upto_region 6 with (
   go_at_call 22
   with_reducible refine hc.mono ?_
   rintro en W2 ⟨m, rfl, hm, rfl⟩
   have HM := hide hm
   clear hm)
 have hm : m ≤ D + 2 := by have := HM.out; omega
 have hmN : m * N ≤ 131072 + 80 := by
   have h1 : m * N ≤ (D + 2) * N := Nat.mul_le_mul_right _ hm
   rw [Nat.add_mul] at h1
   omega
 have HMN := hide hmN
 have HOA : Hid (∃ ad, oa = some ad) := hide (by obtain ⟨ad, e, _⟩ := HS.out (by omega); exact ⟨ad, e⟩)
 obtain ⟨ad, had⟩ := HOA.out
 subst had
 have HL0 := hide (World.ownsRow_lit (base := w.heap.size) (e := 49) (size := 6) W2 #[.int .i64 1, .int .i64 0, .int .i64 0, .int .i64 0, .int .i64 0, .int .i64 (m : Int)] 1 HB1.out.size (by decide) rfl)
 have HB2 := hide (HB1.out.alloc HB1.out.size (.cells #[.int .i64 1, .int .i64 0, .int .i64 0, .int .i64 0, .int .i64 0, .int .i64 (m : Int)] 49))
 go_upto_region 8 with fail
 go_loopw [6, 7] (fun t6 t7 W => ∃ k : Nat, t7 = .int .i64 (k : Int) ∧ k ≤ m ∧ W.ownsRow w.heap.size 49 6 t6 (1 + k * N) (acs (⟨1, 0, 0, 0, 0, (m : Int)⟩ :: timesL l k)) ∧ Below w.heap.size w W) (fun _ t7 _ => m - (intOf t7).toNat)
 case atStart => exact ⟨0, rfl, Nat.zero_le _, by simpa [acs, timesL, Ac.cells] using HL0.out, HB2.out⟩
 case round =>
   obtain ⟨k, rfl, hk, hown, hb⟩ := hrel
   rename World => Wr
   have HO2 := hide hown
   have HBR := hide hb
   have hq2 := IntWalk.i64_in ((k : Int) + 1) (by omega)
   by_cases hkl : k < m
   · have hkI : (k : Int) < (m : Int) := by omega
     have hkN : (k + 1) * N ≤ m * N := Nat.mul_le_mul_right _ hkl
     rw [Nat.add_mul, Nat.one_mul] at hkN
     have HKN := hide (show 1 + k * N + N ≤ 131153 by omega)
     have HSB := hide (HS.out.below HBR.out)
     have HC := hide (show ∀ (j : Nat) (u : Value), (acs l)[j]? = some u → Wr.cell? (ad.add j) = some u from fun j u hj => by
       obtain ⟨ad3, e3, _, hx⟩ := HSB.out (by omega)
       cases e3
       exact hx j u hj)
     have hbw : w.heap.size ≤ Wr.heap.size := hb.size
     clear hown hb hkN
     rename_i t6
     go_upto_region 9 with (at_builtin; refine wpList_append_own_at _ rfl (.tmp 32) (.tmp 33) 26 rfl w.heap.size 49 i3 _ 6 48 Try.underlying26 hi3 hz0 hz1 hz2 rfl (by decide) _ (1 + k * N) _ rfl HO2.out ad N cap (acs l) rfl (by rw [acs_len, HN.out]) HC.out (acs_one l) (by have := HKN.out; unfold maxLen; omega) (by have := HKN.out; omega) hbw ?_; intro u7 w7 hown7 hgr7 _ _; have HO7 := hide hown7; have HB7 := hide (HBR.out.trans (below_grow hgr7 (fun g hg => (HO2.out.lt g hg).1) hbw)); clear hown7 hgr7)
     go_wp2_with fail
     go_roundw
     case rel => exact ⟨k + 1, by go_num, by omega, by
       have h9 := HO7.out
       have e1 : acs (⟨1, 0, 0, 0, 0, (m : Int)⟩ :: timesL l (k + 1)) = acs (⟨1, 0, 0, 0, 0, (m : Int)⟩ :: timesL l k) ++ acs l := by simp [timesL, acs]
       have e2 : 1 + (k + 1) * N = 1 + k * N + N := by rw [Nat.add_mul]; omega
       rw [e1, e2]
       exact h9, HB7.out⟩
     case measure =>
       simp only [intOf]
       omega
   · have hkI : ¬ (k : Int) < (m : Int) := by omega
     obtain rfl : k = m := by omega
     obtain ⟨oz, cz, rfl, hsz⟩ := own_src' hown
     have HSZ := hide hsz
     have hcz : 1 + k * N ≤ cz ∧ cz ≤ maxLen := by
       rcases hown.2 with ⟨e, hn⟩ | ⟨g, cap, cur, e, hb, hg, h1, h2, h3, h4⟩
       · omega
       · injection e with e1 e2 e3
         omega
     have s1 : (Wr.alloc (.cells #[.bool false, .bool true] 4)).heap.size = Wr.heap.size + 1 := by simp
     have s2 : ((Wr.alloc (.cells #[.bool false, .bool true] 4)).alloc (.cells #[.int .i64 0, .int .i64 0, .int .i64 9] 51)).heap.size = Wr.heap.size + 2 := by simp
     have s3 : (((Wr.alloc (.cells #[.bool false, .bool true] 4)).alloc (.cells #[.int .i64 0, .int .i64 0, .int .i64 9] 51)).alloc (.cells #[.int .i64 3] 3)).heap.size = Wr.heap.size + 3 := by simp
     have b1 := ((Blk.new Wr 4 #[.bool false, .bool true]).alloc (.cells #[.int .i64 0, .int .i64 0, .int .i64 9] 51)).alloc (.cells #[.int .i64 3] 3) |>.alloc (.cells #[.slice none 0 0, .slice none 0 0] 26)
     have b2 := (Blk.new (Wr.alloc (.cells #[.bool false, .bool true] 4)) 51 #[.int .i64 0, .int .i64 0, .int .i64 9]).alloc (.cells #[.int .i64 3] 3) |>.alloc (.cells #[.slice none 0 0, .slice none 0 0] 26)
     have b3 := (Blk.new ((Wr.alloc (.cells #[.bool false, .bool true] 4)).alloc (.cells #[.int .i64 0, .int .i64 0, .int .i64 9] 51)) 3 #[.int .i64 3]).alloc (.cells #[.slice none 0 0, .slice none 0 0] 26)
     have b4 := Blk.new (((Wr.alloc (.cells #[.bool false, .bool true] 4)).alloc (.cells #[.int .i64 0, .int .i64 0, .int .i64 9] 51)).alloc (.cells #[.int .i64 3] 3)) 26 #[.slice none 0 0, .slice none 0 0]
     rw [s1] at b2
     rw [s2] at b3
     rw [s3] at b4
     have hB4 : Below Wr.heap.size Wr ((((Wr.alloc (.cells #[.bool false, .bool true] 4)).alloc (.cells #[.int .i64 0, .int .i64 0, .int .i64 9] 51)).alloc (.cells #[.int .i64 3] 3)).alloc (.cells #[.slice none 0 0, .slice none 0 0] 26)) := al4 _ _ _ _ _
     have hB44 := hB4
     have hpm := many_mem (m := k) (l := l) (cz := cz) (oz := oz) b1 b2 b3 b4 (by rw [HN.out]; exact (hsz.below hB4)) (by rw [HN.out]; exact hcz.1) hcz.2
     have hc := genMakes_i _ _ _ _ hpm ⟨by simp [manyP], by simp [manyP], by simp [manyP], by simp [manyP]⟩ (by
       intro l' hl'
       simp only [manyP, List.cons_append, List.nil_append, List.mem_cons, List.not_mem_nil, or_false] at hl'
       rcases hl' with rfl | rfl | rfl
       · simp
       · simp
       · simp only [List.length_cons, timesL_len, HN.out]; omega)
     simp only [manyV, PlV.val, HN.out] at hc
     have HB4 := hide hB4
     clear hown hb hkl hcz s1 s2 s3 b1 b2 b3 b4 hB4 hB44 hpm hsz
     go_wp2_with (
       go_at_call 3
       with_reducible refine hc.mono ?_
       rintro en W5 ⟨rfl, hb5⟩
       have HB5 := hide hb5
       clear hb5)
     go_ret
     exact ⟨rfl, HBR.out.trans ((HB4.out.trans (HB5.out.mono HB4.out.size)).mono HBR.out.size)⟩
end Go.Proofs.Ytdpokdcendgfeaa
