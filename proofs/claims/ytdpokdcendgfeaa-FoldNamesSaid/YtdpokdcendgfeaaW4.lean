/- Several texts in one: Kids of rows as a value; fold's answers; the walk of fold.both. The walk of fold.constant. Conditions: those of each. -/
import Derived.Test.YtdpokdcendgfeaaW3b
import Derived.StillTailTactics
set_option linter.unusedSimpArgs false
set_option linter.unusedVariables false
set_option maxHeartbeats 80000000
namespace Go.Proofs.Ytdpokdcendgfeaa
open Go.RowKit
/-- lists of rows in memory, as one value -/
def KsM (w : World) (v : Value) (ks : List (List Ac)) : Prop := ∃ oa c rs, v = .slice oa ks.length c ∧ Src w oa ks.length (slv rs ks) ∧ EvMem w rs ks ∧ ks.length ≤ c
theorem KsM.below {w w' : World} {v : Value} {ks : List (List Ac)} (h : KsM w v ks) (hb : Below w.heap.size w w') : KsM w' v ks := by
 obtain ⟨oa, c, rs, e, h1, h2, h3⟩ := h
 exact ⟨oa, c, rs, e, h1.below hb, h2.below hb, h3⟩
theorem KsM.drewN {w : World} {v : Value} {ks : List (List Ac)} (h : KsM w v ks) (n : Nat) : KsM (w.drewN n) v ks := h.below (below_drewN (Below.refl _ w) n)
/-- one list of rows in memory that is not empty -/
structure Ro (w : World) (a : Addr) (c : Nat) (l : List Ac) : Prop where
 s : Src w (some a) l.length (acs l)
 n : l.length ≤ c
 m : c ≤ maxLen
theorem Ro.below {w w' : World} {a : Addr} {c : Nat} {l : List Ac} (h : Ro w a c l) (hb : Below w.heap.size w w') : Ro w' a c l := ⟨h.s.below hb, h.n, h.m⟩
theorem KsM.at_ {w : World} {v : Value} {ks : List (List Ac)} (h : KsM w v ks) (hk : 0 < ks.length) : ∃ ad c, v = .slice (some ad) ks.length c ∧ ad.block < w.heap.size ∧ ks.length ≤ c ∧ ∀ j k, ks[j]? = some k → 0 < k.length → ∃ a ca, w.cell? (ad.add j) = some (.slice (some a) k.length ca) ∧ Ro w a ca k := by
 obtain ⟨oa, c, rs, e, h1, h2, hcc⟩ := h
 obtain ⟨ad, rfl, hb, hx⟩ := h1 hk
 refine ⟨ad, c, e, hb, hcc, fun j k hj hpos => ?_⟩
 have hjl := (List.getElem?_eq_some_iff.1 hj).1
 obtain ⟨⟨ra, rc⟩, hr⟩ : ∃ r, rs[j]? = some r := ⟨_, List.getElem?_eq_getElem (by rw [h2.1]; exact hjl)⟩
 obtain ⟨h3, h4, h5⟩ := h2.2 j ra rc k hr hj
 obtain ⟨a, rfl, _, _⟩ := h3 hpos
 exact ⟨a, rc, hx j _ (slv_get rs ks j _ _ hr hj), h3, h4, h5⟩
/-- rows that are told: nothing, or in memory -/
def Rin (w : World) (v : Value) : Option (List Ac) → Prop
 | none => v = .slice none 0 0
 | some l => ∃ oa c, v = .slice oa l.length c ∧ Src w oa l.length (acs l) ∧ l.length ≤ c ∧ c ≤ maxLen
theorem Rin.below {w w' : World} {v : Value} {o : Option (List Ac)} (h : Rin w v o) (hb : Below w.heap.size w w') : Rin w' v o := by
 cases o with
 | none => exact h
 | some l =>
   obtain ⟨oa, c, e, h1, h2, h3⟩ := h
   exact ⟨oa, c, e, h1.below hb, h2, h3⟩
theorem Ro.rin {w : World} {a : Addr} {c : Nat} {l : List Ac} (h : Ro w a c l) : Rin w (.slice (some a) l.length c) (some l) := ⟨some a, c, rfl, h.s, h.n, h.m⟩
/-- what a look of fold tells -/
def ResV (w : World) (en : Ending) : Option (Nat × Option (List Ac)) → Prop
 | none => en = .returned (.tuple #[.int .i64 0, .slice none 0 0, .bool false])
 | some (n, o) => ∃ v, en = .returned (.tuple #[.int .i64 (n : Int), v, .bool true]) ∧ Rin w v o
def truthV (x : Ac) (n : Int) : Bool := decide (x.k = 20) && decide (x.a = n)
def numS (x : Ac) (n : Int) : Bool := decide (x.k = 19) && decide (x.a = n)
/-- fold.both, as a function -/
def bothV (k : Int) (k0 k1 : List Ac) (x0 x1 : Ac) : Option (Nat × Option (List Ac)) :=
 let goes : Int := if k = 38 then 0 else 1
 if truthV x0 goes then some (2, some k1)
 else if truthV x0 (1 - goes) then some (2, some k0)
 else if truthV x1 goes then some (3, some k0)
 else if truthV x1 (1 - goes) && harmlessV k0 then some (3, some k1)
 else none
theorem truth_r {w : World} {a : Addr} {c : Nat} {l : List Ac} {x : Ac} (h : Ro w a c l) (hx : l[0]? = some x) (n : Int) {b : Bool} (hb : truthV x n = b) (W : World) (hW : Below w.heap.size w W) :
   Calls Try.prog 122 #[.slice (some a) l.length c, .int .i64 n] W fun en w' => en = .returned (.bool b) ∧ w' = W := by
 subst hb
 exact truth_i W (some a) c l x n (h.s.below hW) hx
theorem harmless_r {w : World} {a : Addr} {c : Nat} {l : List Ac} (h : Ro w a c l) (hl : l.length ≤ 4194304) {b : Bool} (hb : harmlessV l = b) (W : World) (hW : Below w.heap.size w W) :
   Calls Try.prog 118 #[.slice (some a) l.length c] W fun en w' => en = .returned (.bool b) ∧ Below W.heap.size W w' := by
 subst hb
 exact harmless_i W (some a) c l (h.s.below hW) hl
set_option maxRecDepth 100000 in
theorem both_i (w : World) (x : Ac) (v : Value) (k0 k1 : List Ac) (x0 x1 : Ac) (h : KsM w v [k0, k1]) (h0 : k0[0]? = some x0) (h1 : k1[0]? = some x1) (hl : k0.length ≤ 4194304) :
   Calls Try.prog 116 #[x.val, v] w fun en w' => ResV w' en (bothV x.k k0 k1 x0 x1) ∧ Below w.heap.size w w' := by
 have p0 := (List.getElem?_eq_some_iff.1 h0).1
 have p1 := (List.getElem?_eq_some_iff.1 h1).1
 obtain ⟨ad, c, rfl, hab, _, hx⟩ := h.at_ (by simp)
 obtain ⟨a0, c0, q0, r0⟩ := hx 0 k0 rfl p0
 obtain ⟨a1, c1, q1, r1⟩ := hx 1 k1 rfl p1
 have e0 : ad.add 0 = ad := by simp [Addr.add]
 have e1 : ad.add 1 = ⟨ad.block, ad.off + 1, none⟩ := by simp [Addr.add]
 rw [e0] at q0
 rw [e1] at q1
 by_cases hk38 : x.k = 38
 · have HKB := hide (show (x.k == 38) = true by simp [hk38])
   have hV0 : (if x.k = 38 then (0 : Int) else 1) = 0 := by simp [hk38]
   have u1 : (1 : Int) - 0 = 1 := by omega
   obtain ⟨t0, ht0⟩ : ∃ b, truthV x0 0 = b := ⟨_, rfl⟩
   obtain ⟨t1, ht1⟩ : ∃ b, truthV x0 1 = b := ⟨_, rfl⟩
   obtain ⟨t2, ht2⟩ : ∃ b, truthV x1 0 = b := ⟨_, rfl⟩
   obtain ⟨t3, ht3⟩ : ∃ b, truthV x1 1 = b := ⟨_, rfl⟩
   obtain ⟨hm, hhm⟩ : ∃ b, harmlessV k0 = b := ⟨_, rfl⟩
   have hV : bothV x.k k0 k1 x0 x1 = if t0 then some (2, some k1) else if t1 then some (2, some k0) else if t2 then some (3, some k0) else if t3 && hm then some (3, some k1) else none := by
     unfold bothV
     simp only [hV0, u1, ht0, ht1, ht2, ht3, hhm]
   obtain ⟨V, hVV⟩ : ∃ V, bothV x.k k0 k1 x0 x1 = V := ⟨_, rfl⟩
   rw [hVV] at hV ⊢
   have HV := hide hV
   simp only [Ac.val]
   have HB1 := hide ((Below.refl w.heap.size w).alloc (Nat.le_refl _) (.cells #[.int .i64 x.k, .int .i64 x.a, .int .i64 x.b, .int .i64 x.c, .int .i64 x.d, .int .i64 x.n] 49))
   have q0' := (HB1.out.cell (p := ad) hab).trans q0
   have q1' := (HB1.out.cell (p := ⟨ad.block, ad.off + 1, none⟩) hab).trans q1
   have hab1 : ad.block < (w.alloc (.cells #[.int .i64 x.k, .int .i64 x.a, .int .i64 x.b, .int .i64 x.c, .int .i64 x.d, .int .i64 x.n] 49)).heap.size := Nat.lt_of_lt_of_le hab HB1.out.size
   have y0 : (w.alloc (.cells #[.int .i64 x.k, .int .i64 x.a, .int .i64 x.b, .int .i64 x.c, .int .i64 x.d, .int .i64 x.n] 49)).cell? ⟨w.heap.size, 0, none⟩ = some (.int .i64 x.k) := (Blk.new w 49 #[.int .i64 x.k, .int .i64 x.a, .int .i64 x.b, .int .i64 x.c, .int .i64 x.d, .int .i64 x.n]).cell 0
   have HT0 := hide (fun W hW => truth_r r0 h0 0 ht0 W hW)
   have HT1 := hide (fun W hW => truth_r r0 h0 1 ht1 W hW)
   have HT2 := hide (fun W hW => truth_r r1 h1 0 ht2 W hW)
   have HT3 := hide (fun W hW => truth_r r1 h1 1 ht3 W hW)
   have HH := hide (fun W hW => harmless_r r0 hl hhm W hW)
   have R0 := hide r0
   have R1 := hide r1
   clear h0 h1 h hx r0 r1 ht0 ht1 ht2 ht3 hhm hVV hV hV0 q0 q1 u1 hk38
   go_enter Try.func116, Try.ntmps116
   go_upto_region 1 with fail
   generalize (w.alloc (.cells #[.int .i64 x.k, .int .i64 x.a, .int .i64 x.b, .int .i64 x.c, .int .i64 x.d, .int .i64 x.n] 49)) = W1 at HB1 q0' q1' y0 hab1
   have hkb := HKB.out
   cases t0 with
   | true =>
     go_wp2_with (go_at_call 122; with_reducible refine (HT0.out _ HB1.out).mono ?_; rintro en w2 ⟨rfl, rfl⟩)
     go_quiet (fail)
     go_wp2_with fail
     go_ret3
     exact ⟨by rw [HV.out]; exact ⟨_, rfl, (R1.out.below (below_drewN HB1.out _)).rin⟩, below_drewN HB1.out _⟩
   | false =>
     cases t1 with
     | true =>
       go_wp2_with (go_at_call 122; with_reducible refine (HT0.out _ HB1.out).mono ?_; rintro en w2 ⟨rfl, rfl⟩)
       go_wp2_with (go_at_call 122; with_reducible refine (HT1.out _ HB1.out).mono ?_; rintro en w3 ⟨rfl, rfl⟩)
       go_quiet (fail)
       go_wp2_with fail
       go_ret3
       exact ⟨by rw [HV.out]; exact ⟨_, rfl, (R0.out.below (below_drewN HB1.out _)).rin⟩, below_drewN HB1.out _⟩
     | false =>
       cases t2 with
       | true =>
         go_wp2_with (go_at_call 122; with_reducible refine (HT0.out _ HB1.out).mono ?_; rintro en w2 ⟨rfl, rfl⟩)
         go_wp2_with (go_at_call 122; with_reducible refine (HT1.out _ HB1.out).mono ?_; rintro en w3 ⟨rfl, rfl⟩)
         go_wp2_with (go_at_call 122; with_reducible refine (HT2.out _ HB1.out).mono ?_; rintro en w4 ⟨rfl, rfl⟩)
         go_quiet (fail)
         go_wp2_with fail
         go_ret3
         exact ⟨by rw [HV.out]; exact ⟨_, rfl, (R0.out.below (below_drewN HB1.out _)).rin⟩, below_drewN HB1.out _⟩
       | false =>
         cases t3 with
         | false =>
           go_wp2_with (go_at_call 122; with_reducible refine (HT0.out _ HB1.out).mono ?_; rintro en w2 ⟨rfl, rfl⟩)
           go_wp2_with (go_at_call 122; with_reducible refine (HT1.out _ HB1.out).mono ?_; rintro en w3 ⟨rfl, rfl⟩)
           go_wp2_with (go_at_call 122; with_reducible refine (HT2.out _ HB1.out).mono ?_; rintro en w4 ⟨rfl, rfl⟩)
           go_wp2_with (go_at_call 122; with_reducible refine (HT3.out _ HB1.out).mono ?_; rintro en w5 ⟨rfl, rfl⟩)
           go_ret3
           exact ⟨by rw [HV.out]; rfl, HB1.out⟩
         | true =>
           cases hm with
           | false =>
             go_wp2_with (go_at_call 122; with_reducible refine (HT0.out _ HB1.out).mono ?_; rintro en w2 ⟨rfl, rfl⟩)
             go_wp2_with (go_at_call 122; with_reducible refine (HT1.out _ HB1.out).mono ?_; rintro en w3 ⟨rfl, rfl⟩)
             go_wp2_with (go_at_call 122; with_reducible refine (HT2.out _ HB1.out).mono ?_; rintro en w4 ⟨rfl, rfl⟩)
             go_wp2_with (go_at_call 122; with_reducible refine (HT3.out _ HB1.out).mono ?_; rintro en w5 ⟨rfl, rfl⟩)
             go_wp2_with (go_at_call 118; with_reducible refine (HH.out _ HB1.out).mono ?_; rintro en w9 ⟨rfl, hb9⟩; have HB9 := hide hb9; have q19 := (hb9.cell (p := ⟨ad.block, ad.off + 1, none⟩) hab1).trans q1'; clear hb9)
             go_ret3
             exact ⟨by rw [HV.out]; rfl, HB1.out.trans (HB9.out.mono HB1.out.size)⟩
           | true =>
             go_wp2_with (go_at_call 122; with_reducible refine (HT0.out _ HB1.out).mono ?_; rintro en w2 ⟨rfl, rfl⟩)
             go_wp2_with (go_at_call 122; with_reducible refine (HT1.out _ HB1.out).mono ?_; rintro en w3 ⟨rfl, rfl⟩)
             go_wp2_with (go_at_call 122; with_reducible refine (HT2.out _ HB1.out).mono ?_; rintro en w4 ⟨rfl, rfl⟩)
             go_wp2_with (go_at_call 122; with_reducible refine (HT3.out _ HB1.out).mono ?_; rintro en w5 ⟨rfl, rfl⟩)
             go_wp2_with (go_at_call 118; with_reducible refine (HH.out _ HB1.out).mono ?_; rintro en w9 ⟨rfl, hb9⟩; have HB9 := hide hb9; have q19 := (hb9.cell (p := ⟨ad.block, ad.off + 1, none⟩) hab1).trans q1'; clear hb9)
             go_quiet (fail)
             go_wp2_with fail
             go_ret3
             have hb19 := HB1.out.trans (HB9.out.mono HB1.out.size)
             exact ⟨by rw [HV.out]; exact ⟨_, rfl, (R1.out.below (below_drewN hb19 _)).rin⟩, below_drewN hb19 _⟩
 · have HKB := hide (show (x.k == 38) = false by simp [hk38])
   have hV0 : (if x.k = 38 then (0 : Int) else 1) = 1 := by simp [hk38]
   have u1 : (1 : Int) - 1 = 0 := by omega
   obtain ⟨t0, ht0⟩ : ∃ b, truthV x0 1 = b := ⟨_, rfl⟩
   obtain ⟨t1, ht1⟩ : ∃ b, truthV x0 0 = b := ⟨_, rfl⟩
   obtain ⟨t2, ht2⟩ : ∃ b, truthV x1 1 = b := ⟨_, rfl⟩
   obtain ⟨t3, ht3⟩ : ∃ b, truthV x1 0 = b := ⟨_, rfl⟩
   obtain ⟨hm, hhm⟩ : ∃ b, harmlessV k0 = b := ⟨_, rfl⟩
   have hV : bothV x.k k0 k1 x0 x1 = if t0 then some (2, some k1) else if t1 then some (2, some k0) else if t2 then some (3, some k0) else if t3 && hm then some (3, some k1) else none := by
     unfold bothV
     simp only [hV0, u1, ht0, ht1, ht2, ht3, hhm]
   obtain ⟨V, hVV⟩ : ∃ V, bothV x.k k0 k1 x0 x1 = V := ⟨_, rfl⟩
   rw [hVV] at hV ⊢
   have HV := hide hV
   simp only [Ac.val]
   have HB1 := hide ((Below.refl w.heap.size w).alloc (Nat.le_refl _) (.cells #[.int .i64 x.k, .int .i64 x.a, .int .i64 x.b, .int .i64 x.c, .int .i64 x.d, .int .i64 x.n] 49))
   have q0' := (HB1.out.cell (p := ad) hab).trans q0
   have q1' := (HB1.out.cell (p := ⟨ad.block, ad.off + 1, none⟩) hab).trans q1
   have hab1 : ad.block < (w.alloc (.cells #[.int .i64 x.k, .int .i64 x.a, .int .i64 x.b, .int .i64 x.c, .int .i64 x.d, .int .i64 x.n] 49)).heap.size := Nat.lt_of_lt_of_le hab HB1.out.size
   have y0 : (w.alloc (.cells #[.int .i64 x.k, .int .i64 x.a, .int .i64 x.b, .int .i64 x.c, .int .i64 x.d, .int .i64 x.n] 49)).cell? ⟨w.heap.size, 0, none⟩ = some (.int .i64 x.k) := (Blk.new w 49 #[.int .i64 x.k, .int .i64 x.a, .int .i64 x.b, .int .i64 x.c, .int .i64 x.d, .int .i64 x.n]).cell 0
   have HT0 := hide (fun W hW => truth_r r0 h0 1 ht0 W hW)
   have HT1 := hide (fun W hW => truth_r r0 h0 0 ht1 W hW)
   have HT2 := hide (fun W hW => truth_r r1 h1 1 ht2 W hW)
   have HT3 := hide (fun W hW => truth_r r1 h1 0 ht3 W hW)
   have HH := hide (fun W hW => harmless_r r0 hl hhm W hW)
   have R0 := hide r0
   have R1 := hide r1
   clear h0 h1 h hx r0 r1 ht0 ht1 ht2 ht3 hhm hVV hV hV0 q0 q1 u1 hk38
   go_enter Try.func116, Try.ntmps116
   go_upto_region 1 with fail
   generalize (w.alloc (.cells #[.int .i64 x.k, .int .i64 x.a, .int .i64 x.b, .int .i64 x.c, .int .i64 x.d, .int .i64 x.n] 49)) = W1 at HB1 q0' q1' y0 hab1
   have hkb := HKB.out
   cases t0 with
   | true =>
     go_wp2_with (go_at_call 122; with_reducible refine (HT0.out _ HB1.out).mono ?_; rintro en w2 ⟨rfl, rfl⟩)
     go_quiet (fail)
     go_wp2_with fail
     go_ret3
     exact ⟨by rw [HV.out]; exact ⟨_, rfl, (R1.out.below (below_drewN HB1.out _)).rin⟩, below_drewN HB1.out _⟩
   | false =>
     cases t1 with
     | true =>
       go_wp2_with (go_at_call 122; with_reducible refine (HT0.out _ HB1.out).mono ?_; rintro en w2 ⟨rfl, rfl⟩)
       go_wp2_with (go_at_call 122; with_reducible refine (HT1.out _ HB1.out).mono ?_; rintro en w3 ⟨rfl, rfl⟩)
       go_quiet (fail)
       go_wp2_with fail
       go_ret3
       exact ⟨by rw [HV.out]; exact ⟨_, rfl, (R0.out.below (below_drewN HB1.out _)).rin⟩, below_drewN HB1.out _⟩
     | false =>
       cases t2 with
       | true =>
         go_wp2_with (go_at_call 122; with_reducible refine (HT0.out _ HB1.out).mono ?_; rintro en w2 ⟨rfl, rfl⟩)
         go_wp2_with (go_at_call 122; with_reducible refine (HT1.out _ HB1.out).mono ?_; rintro en w3 ⟨rfl, rfl⟩)
         go_wp2_with (go_at_call 122; with_reducible refine (HT2.out _ HB1.out).mono ?_; rintro en w4 ⟨rfl, rfl⟩)
         go_quiet (fail)
         go_wp2_with fail
         go_ret3
         exact ⟨by rw [HV.out]; exact ⟨_, rfl, (R0.out.below (below_drewN HB1.out _)).rin⟩, below_drewN HB1.out _⟩
       | false =>
         cases t3 with
         | false =>
           go_wp2_with (go_at_call 122; with_reducible refine (HT0.out _ HB1.out).mono ?_; rintro en w2 ⟨rfl, rfl⟩)
           go_wp2_with (go_at_call 122; with_reducible refine (HT1.out _ HB1.out).mono ?_; rintro en w3 ⟨rfl, rfl⟩)
           go_wp2_with (go_at_call 122; with_reducible refine (HT2.out _ HB1.out).mono ?_; rintro en w4 ⟨rfl, rfl⟩)
           go_wp2_with (go_at_call 122; with_reducible refine (HT3.out _ HB1.out).mono ?_; rintro en w5 ⟨rfl, rfl⟩)
           go_ret3
           exact ⟨by rw [HV.out]; rfl, HB1.out⟩
         | true =>
           cases hm with
           | false =>
             go_wp2_with (go_at_call 122; with_reducible refine (HT0.out _ HB1.out).mono ?_; rintro en w2 ⟨rfl, rfl⟩)
             go_wp2_with (go_at_call 122; with_reducible refine (HT1.out _ HB1.out).mono ?_; rintro en w3 ⟨rfl, rfl⟩)
             go_wp2_with (go_at_call 122; with_reducible refine (HT2.out _ HB1.out).mono ?_; rintro en w4 ⟨rfl, rfl⟩)
             go_wp2_with (go_at_call 122; with_reducible refine (HT3.out _ HB1.out).mono ?_; rintro en w5 ⟨rfl, rfl⟩)
             go_wp2_with (go_at_call 118; with_reducible refine (HH.out _ HB1.out).mono ?_; rintro en w9 ⟨rfl, hb9⟩; have HB9 := hide hb9; have q19 := (hb9.cell (p := ⟨ad.block, ad.off + 1, none⟩) hab1).trans q1'; clear hb9)
             go_ret3
             exact ⟨by rw [HV.out]; rfl, HB1.out.trans (HB9.out.mono HB1.out.size)⟩
           | true =>
             go_wp2_with (go_at_call 122; with_reducible refine (HT0.out _ HB1.out).mono ?_; rintro en w2 ⟨rfl, rfl⟩)
             go_wp2_with (go_at_call 122; with_reducible refine (HT1.out _ HB1.out).mono ?_; rintro en w3 ⟨rfl, rfl⟩)
             go_wp2_with (go_at_call 122; with_reducible refine (HT2.out _ HB1.out).mono ?_; rintro en w4 ⟨rfl, rfl⟩)
             go_wp2_with (go_at_call 122; with_reducible refine (HT3.out _ HB1.out).mono ?_; rintro en w5 ⟨rfl, rfl⟩)
             go_wp2_with (go_at_call 118; with_reducible refine (HH.out _ HB1.out).mono ?_; rintro en w9 ⟨rfl, hb9⟩; have HB9 := hide hb9; have q19 := (hb9.cell (p := ⟨ad.block, ad.off + 1, none⟩) hab1).trans q1'; clear hb9)
             go_quiet (fail)
             go_wp2_with fail
             go_ret3
             have hb19 := HB1.out.trans (HB9.out.mono HB1.out.size)
             exact ⟨by rw [HV.out]; exact ⟨_, rfl, (R1.out.below (below_drewN hb19 _)).rin⟩, below_drewN hb19 _⟩
end Go.Proofs.Ytdpokdcendgfeaa
namespace Go.Proofs.Ytdpokdcendgfeaa
open Go.RowKit
def fixedV (x : Ac) : Bool := decide (x.k = 19) || decide (x.k = 20)
def numRw (n : Int) : Ac := ⟨19, n, 0, 0, 0, 0⟩
def boolR (b : Bool) : Ac := ⟨20, if b then 1 else 0, 0, 0, 0, 0⟩
/-- what an operation of constants is -/
def constK (k a b : Int) : Option Ac :=
 if k = 28 then some (numRw (clampV (-a))) else if k = 26 then some (numRw (min a b)) else if k = 27 then some (numRw (max a b)) else if k = 30 then some (numRw (clampV (a * b)))
 else if k = 31 then some (numRw (floorV a b)) else if k = 32 then some (numRw (clampV (a + b))) else if k = 33 then some (numRw (clampV (a - b))) else if k = 34 then some (boolR (decide (a = b)))
 else if k = 35 then some (boolR (decide (a < b))) else if k = 36 then some (boolR (decide (a ≤ b))) else if k = 29 then some (boolR (decide (a = 0))) else none
def firstA : List Ac → Int
 | [] => 0
 | x :: _ => x.a
def lastA : List Ac → Int
 | [] => 0
 | [x] => x.a
 | _ :: y :: l => lastA (y :: l)
/-- fold.constant, as a function of the kids' heads -/
def constV (k : Int) (hs : List Ac) : Option Ac := if hs.all fixedV then constK k (firstA hs) (lastA hs) else none
/-- what constant tells -/
def ConV (w : World) (en : Ending) : Option Ac → Prop
 | none => en = .returned (.tuple #[.slice none 0 0, .bool false])
 | some y => ∃ a, en = .returned (.tuple #[.slice (some a) 1 1, .bool true]) ∧ Ro w a 1 [y]
/-- the heads of kids -/
def Heads (ks : List (List Ac)) (hs : List Ac) : Prop := hs.length = ks.length ∧ ∀ (j : Nat) (k : List Ac) (h : Ac), ks[j]? = some k → hs[j]? = some h → k[0]? = some h
theorem asNum_r (w : World) (n : Int) : Calls Try.prog 119 #[.int .i64 n] w fun en w' => ∃ a, en = .returned (.slice (some a) 1 1) ∧ Ro w' a 1 [numRw n] ∧ Below w.heap.size w w' :=
 (asNum_i w n).mono fun en w' ⟨oa, e, h1, _, h2⟩ => by
   obtain ⟨a, rfl, _⟩ := h1 (by decide)
   exact ⟨a, e, ⟨h1, Nat.le_refl _, by decide⟩, h2⟩
theorem asBool_r (w : World) (b : Bool) : Calls Try.prog 165 #[.bool b] w fun en w' => ∃ a, en = .returned (.slice (some a) 1 1) ∧ Ro w' a 1 [boolR b] ∧ Below w.heap.size w w' :=
 (asBool_i w b).mono fun en w' ⟨oa, e, h1, _, h2⟩ => by
   obtain ⟨a, rfl, _⟩ := h1 (by decide)
   exact ⟨a, e, ⟨h1, Nat.le_refl _, by decide⟩, h2⟩
theorem fixed_r {w : World} {a : Addr} {c : Nat} {l : List Ac} {x : Ac} (h : Ro w a c l) (hx : l[0]? = some x) {b : Bool} (hb : fixedV x = b) (W : World) (hW : Below w.heap.size w W) :
   Calls Try.prog 162 #[.slice (some a) l.length c] W fun en w' => en = .returned (.bool b) ∧ w' = W := by
 subst hb
 exact fixed_i W (some a) c l x (h.s.below hW) hx
theorem min_lt (A B : Int) : min A B = (if B < A then B else A) := by
 by_cases h : B < A
 · rw [if_pos h]; omega
 · rw [if_neg h]; omega
theorem max_lt (A B : Int) : max A B = (if A < B then B else A) := by
 by_cases h : A < B
 · rw [if_pos h]; omega
 · rw [if_neg h]; omega
theorem one_of {hs : List Ac} {a : Ac} (h : hs.length = 1) (e : hs[0]? = some a) : hs = [a] := by
 match hs, h with
 | [x], _ => simpa using e
theorem two_of {hs : List Ac} {a b : Ac} (h : hs.length = 2) (e : hs[0]? = some a) (f : hs[1]? = some b) : hs = [a, b] := by
 match hs, h with
 | [x, y], _ =>
   simp at e f
   rw [e, f]
theorem mul_small {a b : Int} (ha : -1073741824 ≤ a ∧ a ≤ 1073741824) (hb : -1073741824 ≤ b ∧ b ≤ 1073741824) : -1152921504606846976 ≤ a * b ∧ a * b ≤ 1152921504606846976 := by
 have h1 : (a * b).natAbs ≤ 1073741824 * 1073741824 := by
   rw [Int.natAbs_mul]
   exact Nat.mul_le_mul (by omega) (by omega)
 omega
theorem Ro.a {w : World} {a : Addr} {c : Nat} {l : List Ac} {x : Ac} (h : Ro w a c l) (hx : l[0]? = some x) : w.cell? ⟨a.block, a.off + 1, none⟩ = some (.int .i64 x.a) ∧ a.block < w.heap.size ∧ 0 < l.length := by
 have hl := (List.getElem?_eq_some_iff.1 hx).1
 obtain ⟨ad, e, hb, q0, q1, _⟩ := acs_row h.s hx
 injection e with e
 subst e
 have e0 : a.add (0 * 6) = a := by simp [Addr.add]
 rw [e0] at q1
 exact ⟨q1, hb, hl⟩
set_option maxRecDepth 100000 in
theorem constant_i (w : World) (x : Ac) (v : Value) (ks : List (List Ac)) (hs : List Ac) (h : KsM w v ks) (hh : Heads ks hs) (hn : ks.length ≤ 2) (hb : ∀ y ∈ hs, fixedV y = true → -1073741824 ≤ y.a ∧ y.a ≤ 1073741824) (hv0 : ks = [] → ∃ oa c, v = .slice oa 0 c) :
   Calls Try.prog 115 #[x.val, v] w fun en w' => ConV w' en (constV x.k hs) ∧ Below w.heap.size w w' := by
 have HM := hide h
 have HH := hide hh
 have HBD := hide hb
 have hvs : ∃ oa c, v = .slice oa ks.length c := by obtain ⟨oa, c, rs, e, _⟩ := h; exact ⟨oa, c, e⟩
 obtain ⟨oa, c, rfl⟩ := hvs
 obtain ⟨n, hnn⟩ : ∃ n, ks.length = n := ⟨_, rfl⟩
 rw [hnn] at hn
 rw [hnn]
 have HN := hide hnn
 have hxk : ∀ j, j < n → ∃ ad k hd a ca, oa = some ad ∧ ad.block < w.heap.size ∧ ks[j]? = some k ∧ hs[j]? = some hd ∧ k[0]? = some hd ∧ w.cell? (ad.add j) = some (.slice (some a) k.length ca) ∧ Ro w a ca k ∧ 0 < k.length := fun j hj => by
   obtain ⟨ad, c9, e9, hab, _, hx⟩ := h.at_ (by omega)
   injection e9 with e9 _ _
   obtain ⟨k, hk⟩ : ∃ k, ks[j]? = some k := ⟨_, List.getElem?_eq_getElem (by omega)⟩
   obtain ⟨hd, hhd⟩ : ∃ y, hs[j]? = some y := ⟨_, List.getElem?_eq_getElem (by have := hh.1; omega)⟩
   have hk0 := hh.2 j k hd hk hhd
   have hpos := (List.getElem?_eq_some_iff.1 hk0).1
   obtain ⟨a, ca, q, r⟩ := hx j k hk hpos
   exact ⟨ad, k, hd, a, ca, e9, hab, hk, hhd, hk0, q, r, hpos⟩
 have HXK := hide hxk
 clear h hh hb hxk hnn hv0
 simp only [Ac.val]
 have HB1 := hide ((Below.refl w.heap.size w).alloc (Nat.le_refl _) (.cells #[.int .i64 x.k, .int .i64 x.a, .int .i64 x.b, .int .i64 x.c, .int .i64 x.d, .int .i64 x.n] 49))
 have y0 : (w.alloc (.cells #[.int .i64 x.k, .int .i64 x.a, .int .i64 x.b, .int .i64 x.c, .int .i64 x.d, .int .i64 x.n] 49)).cell? ⟨w.heap.size, 0, none⟩ = some (.int .i64 x.k) := (Blk.new w 49 #[.int .i64 x.k, .int .i64 x.a, .int .i64 x.b, .int .i64 x.c, .int .i64 x.d, .int .i64 x.n]).cell 0
 go_enter Try.func115, Try.ntmps115
 go_upto_region 1 with fail
 generalize (w.alloc (.cells #[.int .i64 x.k, .int .i64 x.a, .int .i64 x.b, .int .i64 x.c, .int .i64 x.d, .int .i64 x.n] 49)) = W1 at HB1 y0
 go_upto_region 2 with fail
 go_loopw [12] (fun t12 W => ∃ j : Nat, t12 = .int .i64 (j : Int) ∧ j ≤ n ∧ Hid (∀ i y, i < j → hs[i]? = some y → fixedV y = true) ∧ W = W1) (fun t12 _ => n - (intOf t12).toNat)
 case atStart => exact ⟨0, rfl, Nat.zero_le _, hide (fun i y hi => absurd hi (Nat.not_lt_zero _)), rfl⟩
 case round =>
   obtain ⟨j, rfl, hj, HF, rfl⟩ := hrel
   have hq := IntWalk.i64_in ((j : Int) + 1) (by omega)
   by_cases hjn : j < n
   · have hjI : (j : Int) < (n : Int) := by omega
     obtain ⟨ad, k, hd, a, ca, rfl, hab, hk, hhd, hk0, q, r, hpos⟩ := HXK.out j hjn
     have q' := (HB1.out.cell (p := ad.add j) (by rw [add_block]; exact hab)).trans q
     obtain ⟨fb, hfb⟩ : ∃ b, fixedV hd = b := ⟨_, rfl⟩
     have HFX := hide (fixed_r r hk0 hfb wr HB1.out)
     have HFB := hide hfb
     have HD := hide hhd
     clear hk hhd hk0 q r hfb
     cases fb with
     | true =>
       go_wp2_with (go_at_call 162; with_reducible refine HFX.out.mono ?_; rintro en w2 ⟨rfl, rfl⟩)
       go_roundw
       case rel =>
         refine ⟨j + 1, by go_num, by omega, hide (fun i y hi hy => ?_), by first | rfl | trivial⟩
         rcases Nat.lt_succ_iff_lt_or_eq.1 hi with h9 | h9
         · exact HF.out i y h9 hy
         · subst h9
           rw [HD.out] at hy
           injection hy with hy
           rw [← hy]
           exact HFB.out
       case measure =>
         simp only [intOf]
         omega
     | false =>
       go_wp2_with (go_at_call 162; with_reducible refine HFX.out.mono ?_; rintro en w2 ⟨rfl, rfl⟩)
       go_ret2
       refine ⟨?_, HB1.out⟩
       have h9 : constV x.k hs = none := by
         unfold constV
         rw [if_neg]
         intro h8
         rw [List.all_eq_true] at h8
         have := h8 hd (List.mem_of_getElem? HD.out)
         rw [HFB.out] at this
         cases this
       rw [h9]
       rfl
   · have hjI : ¬ (j : Int) < (n : Int) := by omega
     obtain rfl : j = n := by omega
     have hlen : hs.length = j := by rw [HH.out.1, HN.out]
     have hn3 : j = 0 ∨ j = 1 ∨ j = 2 := by omega
     rcases hn3 with rfl | rfl | rfl
     · have hhs : hs = [] := List.eq_nil_of_length_eq_zero hlen
       have HCV := hide (show constV x.k hs = constK x.k 0 0 by rw [hhs]; simp [constV, firstA, lastA])
       clear hhs hlen
       go_upto_region 10 with fail
       by_cases hk28 : x.k = 28
       · have hv9 : constV x.k hs = some (numRw (clampV (-0))) := by rw [HCV.out, hk28]; simp [constK]
         have HV := hide hv9
         clear hv9
         have b28 : (x.k == 28) = true := by simp [hk28]
         clear hk28
         have u9 := IntWalk.i64_in (-0) (by first | omega | (have := HMUL.out; omega))
         go_wp2_with (go_at_call 163; with_reducible refine (clamp_i _ _).mono ?_; rintro en w8 ⟨rfl, rfl⟩)
         go_wp2_with (go_at_call 119; with_reducible refine (asNum_r _ _).mono ?_; rintro en w9 ⟨ar, rfl, hr9, hb9⟩; have HR9 := hide hr9; have HB9 := hide hb9; clear hr9 hb9)
         all_goals
           go_ret2
           refine ⟨?_, by first | exact HB1.out.trans (HB9.out.mono HB1.out.size) | exact (below_drewN HB1.out _).trans (HB9.out.mono HB1.out.size)⟩
           rw [HV.out]
           first | exact ⟨_, rfl, HR9.out⟩ | (refine ⟨_, rfl, ?_⟩; have h9 := HR9.out; first | simpa using h9 | (rw [show min A B = (if B < A then B else A) from min_lt A B]; exact h9) | (rw [show max A B = (if A < B then B else A) from max_lt A B]; exact h9))
       have b28 : (x.k == 28) = false := by simp [hk28]
       by_cases hk26 : x.k = 26
       · have hv9 : constV x.k hs = some (numRw (min 0 0)) := by rw [HCV.out, hk26]; simp [constK]
         have HV := hide hv9
         clear hv9
         have b26 : (x.k == 26) = true := by simp [hk26]
         clear hk26
         go_wp2_with (go_at_call 119; with_reducible refine (asNum_r _ _).mono ?_; rintro en w9 ⟨ar, rfl, hr9, hb9⟩; have HR9 := hide hr9; have HB9 := hide hb9; clear hr9 hb9)
         all_goals
           go_ret2
           refine ⟨?_, by first | exact HB1.out.trans (HB9.out.mono HB1.out.size) | exact (below_drewN HB1.out _).trans (HB9.out.mono HB1.out.size)⟩
           rw [HV.out]
           first | exact ⟨_, rfl, HR9.out⟩ | (refine ⟨_, rfl, ?_⟩; have h9 := HR9.out; first | simpa using h9 | (rw [show min A B = (if B < A then B else A) from min_lt A B]; exact h9) | (rw [show max A B = (if A < B then B else A) from max_lt A B]; exact h9))
       have b26 : (x.k == 26) = false := by simp [hk26]
       by_cases hk27 : x.k = 27
       · have hv9 : constV x.k hs = some (numRw (max 0 0)) := by rw [HCV.out, hk27]; simp [constK]
         have HV := hide hv9
         clear hv9
         have b27 : (x.k == 27) = true := by simp [hk27]
         clear hk27
         go_wp2_with (go_at_call 119; with_reducible refine (asNum_r _ _).mono ?_; rintro en w9 ⟨ar, rfl, hr9, hb9⟩; have HR9 := hide hr9; have HB9 := hide hb9; clear hr9 hb9)
         all_goals
           go_ret2
           refine ⟨?_, by first | exact HB1.out.trans (HB9.out.mono HB1.out.size) | exact (below_drewN HB1.out _).trans (HB9.out.mono HB1.out.size)⟩
           rw [HV.out]
           first | exact ⟨_, rfl, HR9.out⟩ | (refine ⟨_, rfl, ?_⟩; have h9 := HR9.out; first | simpa using h9 | (rw [show min A B = (if B < A then B else A) from min_lt A B]; exact h9) | (rw [show max A B = (if A < B then B else A) from max_lt A B]; exact h9))
       have b27 : (x.k == 27) = false := by simp [hk27]
       by_cases hk30 : x.k = 30
       · have hv9 : constV x.k hs = some (numRw (clampV (0 * 0))) := by rw [HCV.out, hk30]; simp [constK]
         have HV := hide hv9
         clear hv9
         have b30 : (x.k == 30) = true := by simp [hk30]
         clear hk30
         have u9 := IntWalk.i64_in (0 * 0) (by first | omega | (have := HMUL.out; omega))
         go_wp2_with (go_at_call 163; with_reducible refine (clamp_i _ _).mono ?_; rintro en w8 ⟨rfl, rfl⟩)
         go_wp2_with (go_at_call 119; with_reducible refine (asNum_r _ _).mono ?_; rintro en w9 ⟨ar, rfl, hr9, hb9⟩; have HR9 := hide hr9; have HB9 := hide hb9; clear hr9 hb9)
         all_goals
           go_ret2
           refine ⟨?_, by first | exact HB1.out.trans (HB9.out.mono HB1.out.size) | exact (below_drewN HB1.out _).trans (HB9.out.mono HB1.out.size)⟩
           rw [HV.out]
           first | exact ⟨_, rfl, HR9.out⟩ | (refine ⟨_, rfl, ?_⟩; have h9 := HR9.out; first | simpa using h9 | (rw [show min A B = (if B < A then B else A) from min_lt A B]; exact h9) | (rw [show max A B = (if A < B then B else A) from max_lt A B]; exact h9))
       have b30 : (x.k == 30) = false := by simp [hk30]
       by_cases hk31 : x.k = 31
       · have hv9 : constV x.k hs = some (numRw (floorV 0 0)) := by rw [HCV.out, hk31]; simp [constK]
         have HV := hide hv9
         clear hv9
         have b31 : (x.k == 31) = true := by simp [hk31]
         clear hk31
         go_wp2_with (go_at_call 164; with_reducible refine (floor_i _ _ _ (by omega)).mono ?_; rintro en w8 ⟨rfl, rfl⟩)
         go_wp2_with (go_at_call 119; with_reducible refine (asNum_r _ _).mono ?_; rintro en w9 ⟨ar, rfl, hr9, hb9⟩; have HR9 := hide hr9; have HB9 := hide hb9; clear hr9 hb9)
         all_goals
           go_ret2
           refine ⟨?_, by first | exact HB1.out.trans (HB9.out.mono HB1.out.size) | exact (below_drewN HB1.out _).trans (HB9.out.mono HB1.out.size)⟩
           rw [HV.out]
           first | exact ⟨_, rfl, HR9.out⟩ | (refine ⟨_, rfl, ?_⟩; have h9 := HR9.out; first | simpa using h9 | (rw [show min A B = (if B < A then B else A) from min_lt A B]; exact h9) | (rw [show max A B = (if A < B then B else A) from max_lt A B]; exact h9))
       have b31 : (x.k == 31) = false := by simp [hk31]
       by_cases hk32 : x.k = 32
       · have hv9 : constV x.k hs = some (numRw (clampV (0 + 0))) := by rw [HCV.out, hk32]; simp [constK]
         have HV := hide hv9
         clear hv9
         have b32 : (x.k == 32) = true := by simp [hk32]
         clear hk32
         have u9 := IntWalk.i64_in (0 + 0) (by first | omega | (have := HMUL.out; omega))
         go_wp2_with (go_at_call 163; with_reducible refine (clamp_i _ _).mono ?_; rintro en w8 ⟨rfl, rfl⟩)
         go_wp2_with (go_at_call 119; with_reducible refine (asNum_r _ _).mono ?_; rintro en w9 ⟨ar, rfl, hr9, hb9⟩; have HR9 := hide hr9; have HB9 := hide hb9; clear hr9 hb9)
         all_goals
           go_ret2
           refine ⟨?_, by first | exact HB1.out.trans (HB9.out.mono HB1.out.size) | exact (below_drewN HB1.out _).trans (HB9.out.mono HB1.out.size)⟩
           rw [HV.out]
           first | exact ⟨_, rfl, HR9.out⟩ | (refine ⟨_, rfl, ?_⟩; have h9 := HR9.out; first | simpa using h9 | (rw [show min A B = (if B < A then B else A) from min_lt A B]; exact h9) | (rw [show max A B = (if A < B then B else A) from max_lt A B]; exact h9))
       have b32 : (x.k == 32) = false := by simp [hk32]
       by_cases hk33 : x.k = 33
       · have hv9 : constV x.k hs = some (numRw (clampV (0 - 0))) := by rw [HCV.out, hk33]; simp [constK]
         have HV := hide hv9
         clear hv9
         have b33 : (x.k == 33) = true := by simp [hk33]
         clear hk33
         have u9 := IntWalk.i64_in (0 - 0) (by first | omega | (have := HMUL.out; omega))
         go_wp2_with (go_at_call 163; with_reducible refine (clamp_i _ _).mono ?_; rintro en w8 ⟨rfl, rfl⟩)
         go_wp2_with (go_at_call 119; with_reducible refine (asNum_r _ _).mono ?_; rintro en w9 ⟨ar, rfl, hr9, hb9⟩; have HR9 := hide hr9; have HB9 := hide hb9; clear hr9 hb9)
         all_goals
           go_ret2
           refine ⟨?_, by first | exact HB1.out.trans (HB9.out.mono HB1.out.size) | exact (below_drewN HB1.out _).trans (HB9.out.mono HB1.out.size)⟩
           rw [HV.out]
           first | exact ⟨_, rfl, HR9.out⟩ | (refine ⟨_, rfl, ?_⟩; have h9 := HR9.out; first | simpa using h9 | (rw [show min A B = (if B < A then B else A) from min_lt A B]; exact h9) | (rw [show max A B = (if A < B then B else A) from max_lt A B]; exact h9))
       have b33 : (x.k == 33) = false := by simp [hk33]
       by_cases hk34 : x.k = 34
       · have hv9 : constV x.k hs = some (boolR (decide (0 = 0))) := by rw [HCV.out, hk34]; simp [constK]
         have HV := hide hv9
         clear hv9
         have b34 : (x.k == 34) = true := by simp [hk34]
         clear hk34
         go_wp2_with (go_at_call 165; with_reducible refine (asBool_r _ _).mono ?_; rintro en w9 ⟨ar, rfl, hr9, hb9⟩; have HR9 := hide hr9; have HB9 := hide hb9; clear hr9 hb9)
         all_goals
           go_ret2
           refine ⟨?_, by first | exact HB1.out.trans (HB9.out.mono HB1.out.size) | exact (below_drewN HB1.out _).trans (HB9.out.mono HB1.out.size)⟩
           rw [HV.out]
           first | exact ⟨_, rfl, HR9.out⟩ | (refine ⟨_, rfl, ?_⟩; have h9 := HR9.out; first | simpa using h9 | (rw [show min A B = (if B < A then B else A) from min_lt A B]; exact h9) | (rw [show max A B = (if A < B then B else A) from max_lt A B]; exact h9))
       have b34 : (x.k == 34) = false := by simp [hk34]
       by_cases hk35 : x.k = 35
       · have hv9 : constV x.k hs = some (boolR (decide (0 < 0))) := by rw [HCV.out, hk35]; simp [constK]
         have HV := hide hv9
         clear hv9
         have b35 : (x.k == 35) = true := by simp [hk35]
         clear hk35
         go_wp2_with (go_at_call 165; with_reducible refine (asBool_r _ _).mono ?_; rintro en w9 ⟨ar, rfl, hr9, hb9⟩; have HR9 := hide hr9; have HB9 := hide hb9; clear hr9 hb9)
         all_goals
           go_ret2
           refine ⟨?_, by first | exact HB1.out.trans (HB9.out.mono HB1.out.size) | exact (below_drewN HB1.out _).trans (HB9.out.mono HB1.out.size)⟩
           rw [HV.out]
           first | exact ⟨_, rfl, HR9.out⟩ | (refine ⟨_, rfl, ?_⟩; have h9 := HR9.out; first | simpa using h9 | (rw [show min A B = (if B < A then B else A) from min_lt A B]; exact h9) | (rw [show max A B = (if A < B then B else A) from max_lt A B]; exact h9))
       have b35 : (x.k == 35) = false := by simp [hk35]
       by_cases hk36 : x.k = 36
       · have hv9 : constV x.k hs = some (boolR (decide (0 ≤ 0))) := by rw [HCV.out, hk36]; simp [constK]
         have HV := hide hv9
         clear hv9
         have b36 : (x.k == 36) = true := by simp [hk36]
         clear hk36
         go_wp2_with (go_at_call 165; with_reducible refine (asBool_r _ _).mono ?_; rintro en w9 ⟨ar, rfl, hr9, hb9⟩; have HR9 := hide hr9; have HB9 := hide hb9; clear hr9 hb9)
         all_goals
           go_ret2
           refine ⟨?_, by first | exact HB1.out.trans (HB9.out.mono HB1.out.size) | exact (below_drewN HB1.out _).trans (HB9.out.mono HB1.out.size)⟩
           rw [HV.out]
           first | exact ⟨_, rfl, HR9.out⟩ | (refine ⟨_, rfl, ?_⟩; have h9 := HR9.out; first | simpa using h9 | (rw [show min A B = (if B < A then B else A) from min_lt A B]; exact h9) | (rw [show max A B = (if A < B then B else A) from max_lt A B]; exact h9))
       have b36 : (x.k == 36) = false := by simp [hk36]
       by_cases hk29 : x.k = 29
       · have hv9 : constV x.k hs = some (boolR (decide (0 = 0))) := by rw [HCV.out, hk29]; simp [constK]
         have HV := hide hv9
         clear hv9
         have b29 : (x.k == 29) = true := by simp [hk29]
         clear hk29
         go_wp2_with (go_at_call 165; with_reducible refine (asBool_r _ _).mono ?_; rintro en w9 ⟨ar, rfl, hr9, hb9⟩; have HR9 := hide hr9; have HB9 := hide hb9; clear hr9 hb9)
         all_goals
           go_ret2
           refine ⟨?_, by first | exact HB1.out.trans (HB9.out.mono HB1.out.size) | exact (below_drewN HB1.out _).trans (HB9.out.mono HB1.out.size)⟩
           rw [HV.out]
           first | exact ⟨_, rfl, HR9.out⟩ | (refine ⟨_, rfl, ?_⟩; have h9 := HR9.out; first | simpa using h9 | (rw [show min A B = (if B < A then B else A) from min_lt A B]; exact h9) | (rw [show max A B = (if A < B then B else A) from max_lt A B]; exact h9))
       have b29 : (x.k == 29) = false := by simp [hk29]
       have hv9 : constV x.k hs = none := by rw [HCV.out]; simp [constK, *]
       have HV := hide hv9
       clear hv9
       clear hk28 hk26 hk27 hk30 hk31 hk32 hk33 hk34 hk35 hk36 hk29
       go_wp2_with fail
       go_ret2
       exact ⟨by rw [HV.out]; rfl, by first | exact HB1.out | exact below_drewN HB1.out _⟩
     · obtain ⟨ad, k0, h0, a0, c0, rfl, hab, hk0, hh0, hx0, q0, r0, p0⟩ := HXK.out 0 (by decide)
       have hhs : hs = [h0] := one_of hlen hh0
       have hf0 := HF.out 0 h0 (by decide) hh0
       have hb0 := HBD.out h0 (List.mem_of_getElem? hh0) hf0
       obtain ⟨s0, bb0, _⟩ := r0.a hx0
       have hp0 : (0 : Int) < (k0.length : Int) := by omega
       rw [show ad.add 0 = ad by simp [Addr.add]] at q0
       have q0' := (HB1.out.cell (p := ad) hab).trans q0
       have s0' := (HB1.out.cell (p := ⟨a0.block, a0.off + 1, none⟩) bb0).trans s0
       obtain ⟨A, hA⟩ : ∃ A, h0.a = A := ⟨_, rfl⟩
       rw [hA] at hb0 s0'
       have HCV := hide (show constV x.k hs = constK x.k A A by rw [hhs]; simp [constV, firstA, lastA, hf0, hA])
       have HMUL := hide (mul_small hb0 hb0)
       clear hhs hlen hk0 hh0 hx0 q0 r0 hf0 s0 hA HF hq hj hjn hjI
       go_upto_region 9 with fail
       go_quiet (fail)
       go_upto_region 10 with fail
       by_cases hk28 : x.k = 28
       · have hv9 : constV x.k hs = some (numRw (clampV (-A))) := by rw [HCV.out, hk28]; simp [constK]
         have HV := hide hv9
         clear hv9
         have b28 : (x.k == 28) = true := by simp [hk28]
         clear hk28
         have u9 := IntWalk.i64_in (-A) (by first | omega | (have := HMUL.out; omega))
         go_wp2_with (go_at_call 163; with_reducible refine (clamp_i _ _).mono ?_; rintro en w8 ⟨rfl, rfl⟩)
         go_wp2_with (go_at_call 119; with_reducible refine (asNum_r _ _).mono ?_; rintro en w9 ⟨ar, rfl, hr9, hb9⟩; have HR9 := hide hr9; have HB9 := hide hb9; clear hr9 hb9)
         all_goals
           go_ret2
           refine ⟨?_, by first | exact HB1.out.trans (HB9.out.mono HB1.out.size) | exact (below_drewN HB1.out _).trans (HB9.out.mono HB1.out.size)⟩
           rw [HV.out]
           first | exact ⟨_, rfl, HR9.out⟩ | (refine ⟨_, rfl, ?_⟩; have h9 := HR9.out; first | simpa using h9 | (rw [show min A B = (if B < A then B else A) from min_lt A B]; exact h9) | (rw [show max A B = (if A < B then B else A) from max_lt A B]; exact h9))
       have b28 : (x.k == 28) = false := by simp [hk28]
       by_cases hk26 : x.k = 26
       · have hv9 : constV x.k hs = some (numRw (min A A)) := by rw [HCV.out, hk26]; simp [constK]
         have HV := hide hv9
         clear hv9
         have b26 : (x.k == 26) = true := by simp [hk26]
         clear hk26
         go_wp2_with (go_at_call 119; with_reducible refine (asNum_r _ _).mono ?_; rintro en w9 ⟨ar, rfl, hr9, hb9⟩; have HR9 := hide hr9; have HB9 := hide hb9; clear hr9 hb9)
         all_goals
           go_ret2
           refine ⟨?_, by first | exact HB1.out.trans (HB9.out.mono HB1.out.size) | exact (below_drewN HB1.out _).trans (HB9.out.mono HB1.out.size)⟩
           rw [HV.out]
           first | exact ⟨_, rfl, HR9.out⟩ | (refine ⟨_, rfl, ?_⟩; have h9 := HR9.out; first | simpa using h9 | (rw [show min A B = (if B < A then B else A) from min_lt A B]; exact h9) | (rw [show max A B = (if A < B then B else A) from max_lt A B]; exact h9))
       have b26 : (x.k == 26) = false := by simp [hk26]
       by_cases hk27 : x.k = 27
       · have hv9 : constV x.k hs = some (numRw (max A A)) := by rw [HCV.out, hk27]; simp [constK]
         have HV := hide hv9
         clear hv9
         have b27 : (x.k == 27) = true := by simp [hk27]
         clear hk27
         go_wp2_with (go_at_call 119; with_reducible refine (asNum_r _ _).mono ?_; rintro en w9 ⟨ar, rfl, hr9, hb9⟩; have HR9 := hide hr9; have HB9 := hide hb9; clear hr9 hb9)
         all_goals
           go_ret2
           refine ⟨?_, by first | exact HB1.out.trans (HB9.out.mono HB1.out.size) | exact (below_drewN HB1.out _).trans (HB9.out.mono HB1.out.size)⟩
           rw [HV.out]
           first | exact ⟨_, rfl, HR9.out⟩ | (refine ⟨_, rfl, ?_⟩; have h9 := HR9.out; first | simpa using h9 | (rw [show min A B = (if B < A then B else A) from min_lt A B]; exact h9) | (rw [show max A B = (if A < B then B else A) from max_lt A B]; exact h9))
       have b27 : (x.k == 27) = false := by simp [hk27]
       by_cases hk30 : x.k = 30
       · have hv9 : constV x.k hs = some (numRw (clampV (A * A))) := by rw [HCV.out, hk30]; simp [constK]
         have HV := hide hv9
         clear hv9
         have b30 : (x.k == 30) = true := by simp [hk30]
         clear hk30
         have u9 := IntWalk.i64_in (A * A) (by first | omega | (have := HMUL.out; omega))
         go_wp2_with (go_at_call 163; with_reducible refine (clamp_i _ _).mono ?_; rintro en w8 ⟨rfl, rfl⟩)
         go_wp2_with (go_at_call 119; with_reducible refine (asNum_r _ _).mono ?_; rintro en w9 ⟨ar, rfl, hr9, hb9⟩; have HR9 := hide hr9; have HB9 := hide hb9; clear hr9 hb9)
         all_goals
           go_ret2
           refine ⟨?_, by first | exact HB1.out.trans (HB9.out.mono HB1.out.size) | exact (below_drewN HB1.out _).trans (HB9.out.mono HB1.out.size)⟩
           rw [HV.out]
           first | exact ⟨_, rfl, HR9.out⟩ | (refine ⟨_, rfl, ?_⟩; have h9 := HR9.out; first | simpa using h9 | (rw [show min A B = (if B < A then B else A) from min_lt A B]; exact h9) | (rw [show max A B = (if A < B then B else A) from max_lt A B]; exact h9))
       have b30 : (x.k == 30) = false := by simp [hk30]
       by_cases hk31 : x.k = 31
       · have hv9 : constV x.k hs = some (numRw (floorV A A)) := by rw [HCV.out, hk31]; simp [constK]
         have HV := hide hv9
         clear hv9
         have b31 : (x.k == 31) = true := by simp [hk31]
         clear hk31
         go_wp2_with (go_at_call 164; with_reducible refine (floor_i _ _ _ (by omega)).mono ?_; rintro en w8 ⟨rfl, rfl⟩)
         go_wp2_with (go_at_call 119; with_reducible refine (asNum_r _ _).mono ?_; rintro en w9 ⟨ar, rfl, hr9, hb9⟩; have HR9 := hide hr9; have HB9 := hide hb9; clear hr9 hb9)
         all_goals
           go_ret2
           refine ⟨?_, by first | exact HB1.out.trans (HB9.out.mono HB1.out.size) | exact (below_drewN HB1.out _).trans (HB9.out.mono HB1.out.size)⟩
           rw [HV.out]
           first | exact ⟨_, rfl, HR9.out⟩ | (refine ⟨_, rfl, ?_⟩; have h9 := HR9.out; first | simpa using h9 | (rw [show min A B = (if B < A then B else A) from min_lt A B]; exact h9) | (rw [show max A B = (if A < B then B else A) from max_lt A B]; exact h9))
       have b31 : (x.k == 31) = false := by simp [hk31]
       by_cases hk32 : x.k = 32
       · have hv9 : constV x.k hs = some (numRw (clampV (A + A))) := by rw [HCV.out, hk32]; simp [constK]
         have HV := hide hv9
         clear hv9
         have b32 : (x.k == 32) = true := by simp [hk32]
         clear hk32
         have u9 := IntWalk.i64_in (A + A) (by first | omega | (have := HMUL.out; omega))
         go_wp2_with (go_at_call 163; with_reducible refine (clamp_i _ _).mono ?_; rintro en w8 ⟨rfl, rfl⟩)
         go_wp2_with (go_at_call 119; with_reducible refine (asNum_r _ _).mono ?_; rintro en w9 ⟨ar, rfl, hr9, hb9⟩; have HR9 := hide hr9; have HB9 := hide hb9; clear hr9 hb9)
         all_goals
           go_ret2
           refine ⟨?_, by first | exact HB1.out.trans (HB9.out.mono HB1.out.size) | exact (below_drewN HB1.out _).trans (HB9.out.mono HB1.out.size)⟩
           rw [HV.out]
           first | exact ⟨_, rfl, HR9.out⟩ | (refine ⟨_, rfl, ?_⟩; have h9 := HR9.out; first | simpa using h9 | (rw [show min A B = (if B < A then B else A) from min_lt A B]; exact h9) | (rw [show max A B = (if A < B then B else A) from max_lt A B]; exact h9))
       have b32 : (x.k == 32) = false := by simp [hk32]
       by_cases hk33 : x.k = 33
       · have hv9 : constV x.k hs = some (numRw (clampV (A - A))) := by rw [HCV.out, hk33]; simp [constK]
         have HV := hide hv9
         clear hv9
         have b33 : (x.k == 33) = true := by simp [hk33]
         clear hk33
         have u9 := IntWalk.i64_in (A - A) (by first | omega | (have := HMUL.out; omega))
         go_wp2_with (go_at_call 163; with_reducible refine (clamp_i _ _).mono ?_; rintro en w8 ⟨rfl, rfl⟩)
         go_wp2_with (go_at_call 119; with_reducible refine (asNum_r _ _).mono ?_; rintro en w9 ⟨ar, rfl, hr9, hb9⟩; have HR9 := hide hr9; have HB9 := hide hb9; clear hr9 hb9)
         all_goals
           go_ret2
           refine ⟨?_, by first | exact HB1.out.trans (HB9.out.mono HB1.out.size) | exact (below_drewN HB1.out _).trans (HB9.out.mono HB1.out.size)⟩
           rw [HV.out]
           first | exact ⟨_, rfl, HR9.out⟩ | (refine ⟨_, rfl, ?_⟩; have h9 := HR9.out; first | simpa using h9 | (rw [show min A B = (if B < A then B else A) from min_lt A B]; exact h9) | (rw [show max A B = (if A < B then B else A) from max_lt A B]; exact h9))
       have b33 : (x.k == 33) = false := by simp [hk33]
       by_cases hk34 : x.k = 34
       · have hv9 : constV x.k hs = some (boolR (decide (A = A))) := by rw [HCV.out, hk34]; simp [constK]
         have HV := hide hv9
         clear hv9
         have b34 : (x.k == 34) = true := by simp [hk34]
         clear hk34
         go_wp2_with (go_at_call 165; with_reducible refine (asBool_r _ _).mono ?_; rintro en w9 ⟨ar, rfl, hr9, hb9⟩; have HR9 := hide hr9; have HB9 := hide hb9; clear hr9 hb9)
         all_goals
           go_ret2
           refine ⟨?_, by first | exact HB1.out.trans (HB9.out.mono HB1.out.size) | exact (below_drewN HB1.out _).trans (HB9.out.mono HB1.out.size)⟩
           rw [HV.out]
           first | exact ⟨_, rfl, HR9.out⟩ | (refine ⟨_, rfl, ?_⟩; have h9 := HR9.out; first | simpa using h9 | (rw [show min A B = (if B < A then B else A) from min_lt A B]; exact h9) | (rw [show max A B = (if A < B then B else A) from max_lt A B]; exact h9))
       have b34 : (x.k == 34) = false := by simp [hk34]
       by_cases hk35 : x.k = 35
       · have hv9 : constV x.k hs = some (boolR (decide (A < A))) := by rw [HCV.out, hk35]; simp [constK]
         have HV := hide hv9
         clear hv9
         have b35 : (x.k == 35) = true := by simp [hk35]
         clear hk35
         go_wp2_with (go_at_call 165; with_reducible refine (asBool_r _ _).mono ?_; rintro en w9 ⟨ar, rfl, hr9, hb9⟩; have HR9 := hide hr9; have HB9 := hide hb9; clear hr9 hb9)
         all_goals
           go_ret2
           refine ⟨?_, by first | exact HB1.out.trans (HB9.out.mono HB1.out.size) | exact (below_drewN HB1.out _).trans (HB9.out.mono HB1.out.size)⟩
           rw [HV.out]
           first | exact ⟨_, rfl, HR9.out⟩ | (refine ⟨_, rfl, ?_⟩; have h9 := HR9.out; first | simpa using h9 | (rw [show min A B = (if B < A then B else A) from min_lt A B]; exact h9) | (rw [show max A B = (if A < B then B else A) from max_lt A B]; exact h9))
       have b35 : (x.k == 35) = false := by simp [hk35]
       by_cases hk36 : x.k = 36
       · have hv9 : constV x.k hs = some (boolR (decide (A ≤ A))) := by rw [HCV.out, hk36]; simp [constK]
         have HV := hide hv9
         clear hv9
         have b36 : (x.k == 36) = true := by simp [hk36]
         clear hk36
         go_wp2_with (go_at_call 165; with_reducible refine (asBool_r _ _).mono ?_; rintro en w9 ⟨ar, rfl, hr9, hb9⟩; have HR9 := hide hr9; have HB9 := hide hb9; clear hr9 hb9)
         all_goals
           go_ret2
           refine ⟨?_, by first | exact HB1.out.trans (HB9.out.mono HB1.out.size) | exact (below_drewN HB1.out _).trans (HB9.out.mono HB1.out.size)⟩
           rw [HV.out]
           first | exact ⟨_, rfl, HR9.out⟩ | (refine ⟨_, rfl, ?_⟩; have h9 := HR9.out; first | simpa using h9 | (rw [show min A B = (if B < A then B else A) from min_lt A B]; exact h9) | (rw [show max A B = (if A < B then B else A) from max_lt A B]; exact h9))
       have b36 : (x.k == 36) = false := by simp [hk36]
       by_cases hk29 : x.k = 29
       · have hv9 : constV x.k hs = some (boolR (decide (A = 0))) := by rw [HCV.out, hk29]; simp [constK]
         have HV := hide hv9
         clear hv9
         have b29 : (x.k == 29) = true := by simp [hk29]
         clear hk29
         go_wp2_with (go_at_call 165; with_reducible refine (asBool_r _ _).mono ?_; rintro en w9 ⟨ar, rfl, hr9, hb9⟩; have HR9 := hide hr9; have HB9 := hide hb9; clear hr9 hb9)
         all_goals
           go_ret2
           refine ⟨?_, by first | exact HB1.out.trans (HB9.out.mono HB1.out.size) | exact (below_drewN HB1.out _).trans (HB9.out.mono HB1.out.size)⟩
           rw [HV.out]
           first | exact ⟨_, rfl, HR9.out⟩ | (refine ⟨_, rfl, ?_⟩; have h9 := HR9.out; first | simpa using h9 | (rw [show min A B = (if B < A then B else A) from min_lt A B]; exact h9) | (rw [show max A B = (if A < B then B else A) from max_lt A B]; exact h9))
       have b29 : (x.k == 29) = false := by simp [hk29]
       have hv9 : constV x.k hs = none := by rw [HCV.out]; simp [constK, *]
       have HV := hide hv9
       clear hv9
       clear hk28 hk26 hk27 hk30 hk31 hk32 hk33 hk34 hk35 hk36 hk29
       go_wp2_with fail
       go_ret2
       exact ⟨by rw [HV.out]; rfl, by first | exact HB1.out | exact below_drewN HB1.out _⟩
     · obtain ⟨ad, k0, h0, a0, c0, rfl, hab, hk0, hh0, hx0, q0, r0, p0⟩ := HXK.out 0 (by decide)
       obtain ⟨ad2, k1, h1, a1, c1, e2, _, hk1, hh1, hx1, q1, r1, p1⟩ := HXK.out 1 (by decide)
       injection e2 with e2
       subst e2
       have hhs : hs = [h0, h1] := two_of hlen hh0 hh1
       have hf0 := HF.out 0 h0 (by decide) hh0
       have hf1 := HF.out 1 h1 (by decide) hh1
       have hb0 := HBD.out h0 (List.mem_of_getElem? hh0) hf0
       have hb1 := HBD.out h1 (List.mem_of_getElem? hh1) hf1
       obtain ⟨s0, bb0, _⟩ := r0.a hx0
       obtain ⟨s1, bb1, _⟩ := r1.a hx1
       have hp0 : (0 : Int) < (k0.length : Int) := by omega
       have hp1 : (0 : Int) < (k1.length : Int) := by omega
       rw [show ad.add 0 = ad by simp [Addr.add]] at q0
       rw [show ad.add 1 = ⟨ad.block, ad.off + 1, none⟩ by simp [Addr.add]] at q1
       have q0' := (HB1.out.cell (p := ad) hab).trans q0
       have q1' := (HB1.out.cell (p := ⟨ad.block, ad.off + 1, none⟩) hab).trans q1
       have s0' := (HB1.out.cell (p := ⟨a0.block, a0.off + 1, none⟩) bb0).trans s0
       have s1' := (HB1.out.cell (p := ⟨a1.block, a1.off + 1, none⟩) bb1).trans s1
       obtain ⟨A, hA⟩ : ∃ A, h0.a = A := ⟨_, rfl⟩
       obtain ⟨B, hB⟩ : ∃ B, h1.a = B := ⟨_, rfl⟩
       rw [hA] at hb0 s0'
       rw [hB] at hb1 s1'
       have HCV := hide (show constV x.k hs = constK x.k A B by rw [hhs]; simp [constV, firstA, lastA, hf0, hf1, hA, hB])
       have HMUL := hide (mul_small hb0 hb1)
       clear hhs hlen hk0 hh0 hx0 q0 r0 hf0 s0 hA hk1 hh1 hx1 q1 r1 hf1 s1 hB HF hq hj hjn hjI
       go_upto_region 9 with fail
       go_quiet (fail)
       go_upto_region 10 with fail
       by_cases hk28 : x.k = 28
       · have hv9 : constV x.k hs = some (numRw (clampV (-A))) := by rw [HCV.out, hk28]; simp [constK]
         have HV := hide hv9
         clear hv9
         have b28 : (x.k == 28) = true := by simp [hk28]
         clear hk28
         have u9 := IntWalk.i64_in (-A) (by first | omega | (have := HMUL.out; omega))
         go_wp2_with (go_at_call 163; with_reducible refine (clamp_i _ _).mono ?_; rintro en w8 ⟨rfl, rfl⟩)
         go_wp2_with (go_at_call 119; with_reducible refine (asNum_r _ _).mono ?_; rintro en w9 ⟨ar, rfl, hr9, hb9⟩; have HR9 := hide hr9; have HB9 := hide hb9; clear hr9 hb9)
         all_goals
           go_ret2
           refine ⟨?_, by first | exact HB1.out.trans (HB9.out.mono HB1.out.size) | exact (below_drewN HB1.out _).trans (HB9.out.mono HB1.out.size)⟩
           rw [HV.out]
           first | exact ⟨_, rfl, HR9.out⟩ | (refine ⟨_, rfl, ?_⟩; have h9 := HR9.out; first | simpa using h9 | (rw [show min A B = (if B < A then B else A) from min_lt A B]; exact h9) | (rw [show max A B = (if A < B then B else A) from max_lt A B]; exact h9))
       have b28 : (x.k == 28) = false := by simp [hk28]
       by_cases hk26 : x.k = 26
       · have hv9 : constV x.k hs = some (numRw (min A B)) := by rw [HCV.out, hk26]; simp [constK]
         have HV := hide hv9
         clear hv9
         have b26 : (x.k == 26) = true := by simp [hk26]
         clear hk26
         go_wp2_with (go_at_call 119; with_reducible refine (asNum_r _ _).mono ?_; rintro en w9 ⟨ar, rfl, hr9, hb9⟩; have HR9 := hide hr9; have HB9 := hide hb9; clear hr9 hb9)
         all_goals
           go_ret2
           refine ⟨?_, by first | exact HB1.out.trans (HB9.out.mono HB1.out.size) | exact (below_drewN HB1.out _).trans (HB9.out.mono HB1.out.size)⟩
           rw [HV.out]
           first | exact ⟨_, rfl, HR9.out⟩ | (refine ⟨_, rfl, ?_⟩; have h9 := HR9.out; first | simpa using h9 | (rw [show min A B = (if B < A then B else A) from min_lt A B]; exact h9) | (rw [show max A B = (if A < B then B else A) from max_lt A B]; exact h9))
       have b26 : (x.k == 26) = false := by simp [hk26]
       by_cases hk27 : x.k = 27
       · have hv9 : constV x.k hs = some (numRw (max A B)) := by rw [HCV.out, hk27]; simp [constK]
         have HV := hide hv9
         clear hv9
         have b27 : (x.k == 27) = true := by simp [hk27]
         clear hk27
         go_wp2_with (go_at_call 119; with_reducible refine (asNum_r _ _).mono ?_; rintro en w9 ⟨ar, rfl, hr9, hb9⟩; have HR9 := hide hr9; have HB9 := hide hb9; clear hr9 hb9)
         all_goals
           go_ret2
           refine ⟨?_, by first | exact HB1.out.trans (HB9.out.mono HB1.out.size) | exact (below_drewN HB1.out _).trans (HB9.out.mono HB1.out.size)⟩
           rw [HV.out]
           first | exact ⟨_, rfl, HR9.out⟩ | (refine ⟨_, rfl, ?_⟩; have h9 := HR9.out; first | simpa using h9 | (rw [show min A B = (if B < A then B else A) from min_lt A B]; exact h9) | (rw [show max A B = (if A < B then B else A) from max_lt A B]; exact h9))
       have b27 : (x.k == 27) = false := by simp [hk27]
       by_cases hk30 : x.k = 30
       · have hv9 : constV x.k hs = some (numRw (clampV (A * B))) := by rw [HCV.out, hk30]; simp [constK]
         have HV := hide hv9
         clear hv9
         have b30 : (x.k == 30) = true := by simp [hk30]
         clear hk30
         have u9 := IntWalk.i64_in (A * B) (by first | omega | (have := HMUL.out; omega))
         go_wp2_with (go_at_call 163; with_reducible refine (clamp_i _ _).mono ?_; rintro en w8 ⟨rfl, rfl⟩)
         go_wp2_with (go_at_call 119; with_reducible refine (asNum_r _ _).mono ?_; rintro en w9 ⟨ar, rfl, hr9, hb9⟩; have HR9 := hide hr9; have HB9 := hide hb9; clear hr9 hb9)
         all_goals
           go_ret2
           refine ⟨?_, by first | exact HB1.out.trans (HB9.out.mono HB1.out.size) | exact (below_drewN HB1.out _).trans (HB9.out.mono HB1.out.size)⟩
           rw [HV.out]
           first | exact ⟨_, rfl, HR9.out⟩ | (refine ⟨_, rfl, ?_⟩; have h9 := HR9.out; first | simpa using h9 | (rw [show min A B = (if B < A then B else A) from min_lt A B]; exact h9) | (rw [show max A B = (if A < B then B else A) from max_lt A B]; exact h9))
       have b30 : (x.k == 30) = false := by simp [hk30]
       by_cases hk31 : x.k = 31
       · have hv9 : constV x.k hs = some (numRw (floorV A B)) := by rw [HCV.out, hk31]; simp [constK]
         have HV := hide hv9
         clear hv9
         have b31 : (x.k == 31) = true := by simp [hk31]
         clear hk31
         go_wp2_with (go_at_call 164; with_reducible refine (floor_i _ _ _ (by omega)).mono ?_; rintro en w8 ⟨rfl, rfl⟩)
         go_wp2_with (go_at_call 119; with_reducible refine (asNum_r _ _).mono ?_; rintro en w9 ⟨ar, rfl, hr9, hb9⟩; have HR9 := hide hr9; have HB9 := hide hb9; clear hr9 hb9)
         all_goals
           go_ret2
           refine ⟨?_, by first | exact HB1.out.trans (HB9.out.mono HB1.out.size) | exact (below_drewN HB1.out _).trans (HB9.out.mono HB1.out.size)⟩
           rw [HV.out]
           first | exact ⟨_, rfl, HR9.out⟩ | (refine ⟨_, rfl, ?_⟩; have h9 := HR9.out; first | simpa using h9 | (rw [show min A B = (if B < A then B else A) from min_lt A B]; exact h9) | (rw [show max A B = (if A < B then B else A) from max_lt A B]; exact h9))
       have b31 : (x.k == 31) = false := by simp [hk31]
       by_cases hk32 : x.k = 32
       · have hv9 : constV x.k hs = some (numRw (clampV (A + B))) := by rw [HCV.out, hk32]; simp [constK]
         have HV := hide hv9
         clear hv9
         have b32 : (x.k == 32) = true := by simp [hk32]
         clear hk32
         have u9 := IntWalk.i64_in (A + B) (by first | omega | (have := HMUL.out; omega))
         go_wp2_with (go_at_call 163; with_reducible refine (clamp_i _ _).mono ?_; rintro en w8 ⟨rfl, rfl⟩)
         go_wp2_with (go_at_call 119; with_reducible refine (asNum_r _ _).mono ?_; rintro en w9 ⟨ar, rfl, hr9, hb9⟩; have HR9 := hide hr9; have HB9 := hide hb9; clear hr9 hb9)
         all_goals
           go_ret2
           refine ⟨?_, by first | exact HB1.out.trans (HB9.out.mono HB1.out.size) | exact (below_drewN HB1.out _).trans (HB9.out.mono HB1.out.size)⟩
           rw [HV.out]
           first | exact ⟨_, rfl, HR9.out⟩ | (refine ⟨_, rfl, ?_⟩; have h9 := HR9.out; first | simpa using h9 | (rw [show min A B = (if B < A then B else A) from min_lt A B]; exact h9) | (rw [show max A B = (if A < B then B else A) from max_lt A B]; exact h9))
       have b32 : (x.k == 32) = false := by simp [hk32]
       by_cases hk33 : x.k = 33
       · have hv9 : constV x.k hs = some (numRw (clampV (A - B))) := by rw [HCV.out, hk33]; simp [constK]
         have HV := hide hv9
         clear hv9
         have b33 : (x.k == 33) = true := by simp [hk33]
         clear hk33
         have u9 := IntWalk.i64_in (A - B) (by first | omega | (have := HMUL.out; omega))
         go_wp2_with (go_at_call 163; with_reducible refine (clamp_i _ _).mono ?_; rintro en w8 ⟨rfl, rfl⟩)
         go_wp2_with (go_at_call 119; with_reducible refine (asNum_r _ _).mono ?_; rintro en w9 ⟨ar, rfl, hr9, hb9⟩; have HR9 := hide hr9; have HB9 := hide hb9; clear hr9 hb9)
         all_goals
           go_ret2
           refine ⟨?_, by first | exact HB1.out.trans (HB9.out.mono HB1.out.size) | exact (below_drewN HB1.out _).trans (HB9.out.mono HB1.out.size)⟩
           rw [HV.out]
           first | exact ⟨_, rfl, HR9.out⟩ | (refine ⟨_, rfl, ?_⟩; have h9 := HR9.out; first | simpa using h9 | (rw [show min A B = (if B < A then B else A) from min_lt A B]; exact h9) | (rw [show max A B = (if A < B then B else A) from max_lt A B]; exact h9))
       have b33 : (x.k == 33) = false := by simp [hk33]
       by_cases hk34 : x.k = 34
       · have hv9 : constV x.k hs = some (boolR (decide (A = B))) := by rw [HCV.out, hk34]; simp [constK]
         have HV := hide hv9
         clear hv9
         have b34 : (x.k == 34) = true := by simp [hk34]
         clear hk34
         go_wp2_with (go_at_call 165; with_reducible refine (asBool_r _ _).mono ?_; rintro en w9 ⟨ar, rfl, hr9, hb9⟩; have HR9 := hide hr9; have HB9 := hide hb9; clear hr9 hb9)
         all_goals
           go_ret2
           refine ⟨?_, by first | exact HB1.out.trans (HB9.out.mono HB1.out.size) | exact (below_drewN HB1.out _).trans (HB9.out.mono HB1.out.size)⟩
           rw [HV.out]
           first | exact ⟨_, rfl, HR9.out⟩ | (refine ⟨_, rfl, ?_⟩; have h9 := HR9.out; first | simpa using h9 | (rw [show min A B = (if B < A then B else A) from min_lt A B]; exact h9) | (rw [show max A B = (if A < B then B else A) from max_lt A B]; exact h9))
       have b34 : (x.k == 34) = false := by simp [hk34]
       by_cases hk35 : x.k = 35
       · have hv9 : constV x.k hs = some (boolR (decide (A < B))) := by rw [HCV.out, hk35]; simp [constK]
         have HV := hide hv9
         clear hv9
         have b35 : (x.k == 35) = true := by simp [hk35]
         clear hk35
         go_wp2_with (go_at_call 165; with_reducible refine (asBool_r _ _).mono ?_; rintro en w9 ⟨ar, rfl, hr9, hb9⟩; have HR9 := hide hr9; have HB9 := hide hb9; clear hr9 hb9)
         all_goals
           go_ret2
           refine ⟨?_, by first | exact HB1.out.trans (HB9.out.mono HB1.out.size) | exact (below_drewN HB1.out _).trans (HB9.out.mono HB1.out.size)⟩
           rw [HV.out]
           first | exact ⟨_, rfl, HR9.out⟩ | (refine ⟨_, rfl, ?_⟩; have h9 := HR9.out; first | simpa using h9 | (rw [show min A B = (if B < A then B else A) from min_lt A B]; exact h9) | (rw [show max A B = (if A < B then B else A) from max_lt A B]; exact h9))
       have b35 : (x.k == 35) = false := by simp [hk35]
       by_cases hk36 : x.k = 36
       · have hv9 : constV x.k hs = some (boolR (decide (A ≤ B))) := by rw [HCV.out, hk36]; simp [constK]
         have HV := hide hv9
         clear hv9
         have b36 : (x.k == 36) = true := by simp [hk36]
         clear hk36
         go_wp2_with (go_at_call 165; with_reducible refine (asBool_r _ _).mono ?_; rintro en w9 ⟨ar, rfl, hr9, hb9⟩; have HR9 := hide hr9; have HB9 := hide hb9; clear hr9 hb9)
         all_goals
           go_ret2
           refine ⟨?_, by first | exact HB1.out.trans (HB9.out.mono HB1.out.size) | exact (below_drewN HB1.out _).trans (HB9.out.mono HB1.out.size)⟩
           rw [HV.out]
           first | exact ⟨_, rfl, HR9.out⟩ | (refine ⟨_, rfl, ?_⟩; have h9 := HR9.out; first | simpa using h9 | (rw [show min A B = (if B < A then B else A) from min_lt A B]; exact h9) | (rw [show max A B = (if A < B then B else A) from max_lt A B]; exact h9))
       have b36 : (x.k == 36) = false := by simp [hk36]
       by_cases hk29 : x.k = 29
       · have hv9 : constV x.k hs = some (boolR (decide (A = 0))) := by rw [HCV.out, hk29]; simp [constK]
         have HV := hide hv9
         clear hv9
         have b29 : (x.k == 29) = true := by simp [hk29]
         clear hk29
         go_wp2_with (go_at_call 165; with_reducible refine (asBool_r _ _).mono ?_; rintro en w9 ⟨ar, rfl, hr9, hb9⟩; have HR9 := hide hr9; have HB9 := hide hb9; clear hr9 hb9)
         all_goals
           go_ret2
           refine ⟨?_, by first | exact HB1.out.trans (HB9.out.mono HB1.out.size) | exact (below_drewN HB1.out _).trans (HB9.out.mono HB1.out.size)⟩
           rw [HV.out]
           first | exact ⟨_, rfl, HR9.out⟩ | (refine ⟨_, rfl, ?_⟩; have h9 := HR9.out; first | simpa using h9 | (rw [show min A B = (if B < A then B else A) from min_lt A B]; exact h9) | (rw [show max A B = (if A < B then B else A) from max_lt A B]; exact h9))
       have b29 : (x.k == 29) = false := by simp [hk29]
       have hv9 : constV x.k hs = none := by rw [HCV.out]; simp [constK, *]
       have HV := hide hv9
       clear hv9
       clear hk28 hk26 hk27 hk30 hk31 hk32 hk33 hk34 hk35 hk36 hk29
       go_wp2_with fail
       go_ret2
       exact ⟨by rw [HV.out]; rfl, by first | exact HB1.out | exact below_drewN HB1.out _⟩
end Go.Proofs.Ytdpokdcendgfeaa
