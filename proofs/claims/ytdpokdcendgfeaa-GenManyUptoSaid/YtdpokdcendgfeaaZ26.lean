/- Several texts in one: The walk of the reference's code, kind by kind. Conditions: those of each. -/
import Derived.Test.YtdpokdcendgfeaaZ25
import Derived.Test.YtdpokdcendgfeaaZ1
import Derived.StillTailTactics
import Derived.Deep.CutBlock
import Derived.Deep.DeepCutAuto
set_option linter.unusedSimpArgs false
set_option linter.unusedVariables false
set_option maxHeartbeats 40000000
namespace Go.Proofs.Ytdpokdcendgfeaa
open Go.RowKit
theorem LnsTold.down {ls : List Ln} {w w2 w' : World} {en : Ending} (h : LnsTold ls w2 en w') (hb : Below w.heap.size w w2) : LnsTold ls w en w' := by
 obtain ⟨oa, c, e, hl, hb2⟩ := h
 exact ⟨oa, c, e, hl.down hb.size, hb.trans (hb2.mono hb.size)⟩
theorem CodeAt.below {w w' : World} {b k : Nat} {ls : List Ln} (h : CodeAt w b k ls) (hb : Below w.heap.size w w') : CodeAt w' b k ls := fun w2 hb2 => h w2 (hb.trans (hb2.mono hb.size))
theorem Wk.fresh {w0 w : World} {v : Value} {l m : List Ln} {us : List (Value × List Ln)} (h : Wk w0 w v l us) (cells : Array Value) (hc : cells.toList = lcs m) (hm : m.length ≤ 9000000) : Wk w0 (w.alloc (.cells cells 156)) (.slice (some ⟨w.heap.size, 0, none⟩) m.length m.length) m ((v, l) :: us) := by
 have hb := (Below.refl w.heap.size w).alloc (Nat.le_refl _) (.cells cells 156)
 have h2 := h.below hb
 refine ⟨Lns.of_blk (Blk.new w _ cells) hc h.b.size hm, h2.b, fun p hp => ?_⟩
 rcases List.mem_cons.1 hp with rfl | hp
 · exact ⟨⟨_, h2.o⟩, fun k h3 h4 => by
     have := (h.o.lt k h4).2
     simp [Value.ownBlock] at h3
     omega⟩
 · obtain ⟨⟨C, h5⟩, h6⟩ := h.u p hp
   refine ⟨⟨C, h5.below hb⟩, fun k h3 h4 => ?_⟩
   have := (h5.lt k h4).2
   simp [Value.ownBlock] at h3
   omega
theorem Wk.drop {w0 w : World} {v : Value} {l : List Ln} {us : List (Value × List Ln)} (h : Wk w0 w v l us) : Wk w0 w v l [] := ⟨h.o, h.b, fun p hp => by cases hp⟩
/-- an append of lines that lie in a block of their own, as a step of a region -/
theorem step_wk {w0 w : World} {v : Value} {l : List Ln} {ops : Array Oper} {o : Oper} {a : Act} {K : Act → World → Prop} {Q : Exit → Act → World → Prop} {E : Prop} (h : Wk w0 w v l []) (hg : o.guard = none) (s x : Operand)
   (hop : o.op = Op.call { callee := Callee.builtin Builtin.append, args := #[s, x], argTypes := #[153, 153] })
   (m : List Ln) (cells : Array Value) (g c : Nat) (hb : Blk w g 156 cells) (hs : a.eval s = v) (hx : a.eval x = .slice (some ⟨g, 0, none⟩) m.length c) (hc : cells.toList = lcs m) (hlm : l.length + m.length ≤ 9000000)
   (hK : ∀ oa c N w', Hid (N = (l ++ m).length) → Wk w0 w' (.slice oa N c) (l ++ m) [] → K (a.put o.dst (.slice oa N c)) w') : if Region.wanted o (yielded ops a.tmps) = true then Oper.wp Try.prog o a w K Q else E := by
 obtain ⟨i3, hi3, hz0, hz1, hz2⟩ := info_parts3 infL
 refine step_append_own hg s x 153 hop w0.heap.size 156 i3 _ 7 56 Try.underlying153 hi3 hz0 hz1 hz2 rfl (by decide) v l.length (lcs l) hs h.o ⟨g, 0, none⟩ m.length c (lcs m) hx (lcs_length m) (fun j u hj => ?_) (lcs_one m) (by unfold maxLen; omega) (by omega) h.b.size ?_
 · have hadd : (⟨g, 0, none⟩ : Addr).add j = ⟨g, j, none⟩ := by unfold Addr.add; split <;> simp_all
   rw [hadd, hb.cell, ← Array.getElem?_toList, hc, hj]
 · intro v' w' h1 h2
   have h3 : Lns w' w0.heap.size v' (l ++ m) := by unfold Lns; rw [List.length_append, lcs_append]; exact h1
   obtain ⟨oa, c', e⟩ := h3.slice
   have h4 : Wk w0 w' v' (l ++ m) [] := ⟨h3, h.b.trans (below_grow h2 (fun k hk => (h.o.lt k hk).1) h.b.size), fun p hp => by cases hp⟩
   rw [e] at h4 ⊢
   exact hK _ _ _ _ (hide rfl) h4
theorem flatL_succ (G : Nat → List Ln) {ks : List Nat} {j k : Nat} (h : ks[j]? = some k) : ((ks.take (j + 1)).map G).flatten = ((ks.take j).map G).flatten ++ G k := by
 rw [List.take_add_one, h]
 simp
theorem flatL_le (G : Nat → List Ln) (ks : List Nat) (j : Nat) : (((ks.take j).map G).flatten).length ≤ ((ks.map G).flatten).length := by
 have h : (ks.map G).flatten = ((ks.take j).map G).flatten ++ ((ks.drop j).map G).flatten := by rw [← List.flatten_append, ← List.map_append, List.take_append_drop]
 rw [h, List.length_append]
 omega
theorem kidsS_count {l : List Ac} : ∀ (n k : Nat) (sp : List (Nat × Nat)), kidsS l n k = some sp → sp.length = n
 | 0, k, sp, h => by
   simp only [kidsS, Option.some.injEq] at h
   rw [← h]
   rfl
 | n + 1, k, sp, h => by
   simp only [kidsS] at h
   split at h
   · cases h
   · next e _ =>
     cases h2 : kidsS l n e with
     | none => rw [h2] at h; cases h
     | some r =>
       rw [h2] at h
       simp only [Option.map_some, Option.some.injEq] at h
       rw [← h, List.length_cons, kidsS_count n e r h2]
theorem kids_short {w : World} {oa : Option Addr} {n c : Nat} {ks : List Nat} (h : KidsAt w (.slice oa n c) ks) : n = ks.length := by
 obtain ⟨oa', c', e, _⟩ := h
 injection e
theorem item_form (row : Nat) (y : Ac) (x e tag : Int) : ∃ o a b c d, itemL row y x e tag = oneL row o a b c d := by
 unfold itemL
 split
 · exact ⟨_, _, _, _, _, rfl⟩
 · exact ⟨_, _, _, _, _, rfl⟩
theorem item_v (w : World) (b : Nat) (ad : Addr) (c : Nat) (l : List Ac) (h : Wr w b ad c l) (row k : Nat) (y : Ac) (x e tag : Int) (hy : l[k]? = some y) {o a1 a2 a3 a4 : Int} (hI : itemL row y x e tag = oneL row o a1 a2 a3 a4) :
   Calls Try.prog 159 #[.pointer (some ⟨b, 0, none⟩), .int .i64 (row : Int), .int .i64 (k : Int), .int .i64 x, .int .i64 e, .int .i64 tag] w fun en w' => en = .returned (.agg #[.int .i64 o, .int .i64 a1, .int .i64 a2, .int .i64 a3, .int .i64 a4, .int .i64 (row : Int), .bool false]) ∧ Below w.heap.size w w' := by
 have := itemL_i w b ad c l h row k y x e tag hy
 rw [hI] at this
 exact this
set_option maxRecDepth 100000 in
theorem code_if2 (w : World) (b : Nat) (ad : Addr) (c : Nat) (l : List Ac) (h : Wr w b ad c l) (i : Nat) (x : Ac) (hx : l[i]? = some x) (hk : x.k = 2) (hx0 : 0 ≤ x.n) (hx1 : x.n ≤ (l.length : Int)) (sp : List (Nat × Nat)) (hks : kidsS l x.n.toNat (i + 1) = some sp) (k1 k2 : Nat) (hsp : sp.map Prod.fst = [k1, k2]) (A B : List Ln) (h1 : CodeAt w b k1 A) (n1 : A.length ≤ 1100000) (h2 : CodeAt w b k2 B) (n2 : B.length ≤ 1100000) :
   Calls Try.prog 112 #[.pointer (some ⟨b, 0, none⟩), .int .i64 (i : Int)] w (LnsTold (A ++ jmpL i 23 (B.length + 1) :: B) w) := by
 have HW := hide h
 have hil := (List.getElem?_eq_some_iff.1 hx).1
 have hi0 : (0 : Int) ≤ (i : Int) := by omega
 have hiL : (i : Int) < (l.length : Int) := by omega
 have ck := h.cell
 have hbl := h.k.lt
 obtain ⟨ad1, e1, hab, q0, q1, q2, q3, q4, q5⟩ := acs_row h.s hx
 cases e1
 have HKI := fun (W : World) (hb : Below w.heap.size w W) => hide (kidsL_i W ad c l (h.s.below hb) h.m i x sp hx hks hx0 hx1)
 have hkl : sp.length = ([k1, k2] : List Nat).length := by rw [← hsp]; simp
 have hkb : ([k1, k2] : List Nat).length ≤ 262144 := by have h1 := kidsS_count _ _ _ hks; have h2 := h.m.1; rw [← hkl]; omega
 have hkm : (sp.map fun r => (r.1 : Int)) = ([k1, k2] : List Nat).map (fun k : Nat => (k : Int)) := by rw [← hsp]; simp
 rw [hkl, hkm] at HKI
 obtain ⟨xk, xa, xb, xc, xd, xn⟩ := x
 simp only at q0 q1 q2 q3 q4 q5 hk
 subst hk
 have hb1 := (Below.refl w.heap.size w).alloc (Nat.le_refl _) (.cells #[.int .i64 2, .int .i64 xa, .int .i64 xb, .int .i64 xc, .int .i64 xd, .int .i64 xn] 49)
 have hk1 := Blk.new w 49 #[.int .i64 2, .int .i64 xa, .int .i64 xb, .int .i64 xc, .int .i64 xd, .int .i64 xn]
 have HB1 := hide hb1
 have HK1 := hide hk1
 have HKI1 := HKI _ hb1
 have hs1 : w.heap.size < (w.alloc (.cells #[.int .i64 2, .int .i64 xa, .int .i64 xb, .int .i64 xc, .int .i64 xd, .int .i64 xn] 49)).heap.size := by simp
 clear h hx hks hsp hkl hkm HKI hb1 hk1 hx0 hx1
 go_enter Try.func112, Try.ntmps112
 go_upto_region 3 with (go_at_call 156
                        with_reducible refine HKI1.out.mono ?_
                        rintro en w2 ⟨kv, rfl, hown, hb2⟩
                        have HB2 := hide (HB1.out.trans (hb2.mono HB1.out.size))
                        have hk2 := HK1.out.below hb2 HK1.out.lt
                        have HKA := hide (kids_at hown)
                        obtain ⟨oa, ca, rfl⟩ := own_slice hown
                        clear hown hb2)
 have x0 : w2.cell? ⟨w.heap.size, 0, none⟩ = some (.int .i64 2) := by rw [hk2.cell]; rfl
 have x1 : w2.cell? ⟨w.heap.size, 1, none⟩ = some (.int .i64 xa) := by rw [hk2.cell]; rfl
 have x2 : w2.cell? ⟨w.heap.size, 2, none⟩ = some (.int .i64 xb) := by rw [hk2.cell]; rfl
 have x3 : w2.cell? ⟨w.heap.size, 3, none⟩ = some (.int .i64 xc) := by rw [hk2.cell]; rfl
 have x4 : w2.cell? ⟨w.heap.size, 4, none⟩ = some (.int .i64 xd) := by rw [hk2.cell]; rfl
 have hs2 := hk2.lt
 have HK2 := hide hk2
 have HW2 := hide (HW.out.below HB2.out)
 clear hk2 ck hab q0 q1 q2 q3 q4 q5 HK1 HB1 HKI1 hs1
 have HC := hide (branch_two w2 b i _ k1 k2 A B HKA.out (h1.below HB2.out) n1 (h2.below HB2.out) n2)
 clear h1 h2
 simp only [List.length_cons, List.length_nil, Nat.zero_add, Nat.reduceAdd] at HC ⊢
 go_wp2_with (go_at_call 157
              with_reducible refine HC.out.mono ?_
              rintro en w9 hlt
              have HLT := hide (LnsTold.down hlt HB2.out)
              obtain ⟨oa9, c9, he, -, -⟩ := hlt
              obtain ⟨v9, rfl⟩ : ∃ v9, en = .returned v9 := ⟨_, he⟩
              clear he)
 go_ret
 exact HLT.out
set_option maxRecDepth 100000 in
theorem code_if3 (w : World) (b : Nat) (ad : Addr) (c : Nat) (l : List Ac) (h : Wr w b ad c l) (i : Nat) (x : Ac) (hx : l[i]? = some x) (hk : x.k = 2) (hx0 : 0 ≤ x.n) (hx1 : x.n ≤ (l.length : Int)) (sp : List (Nat × Nat)) (hks : kidsS l x.n.toNat (i + 1) = some sp) (k1 k2 k3 : Nat) (hsp : sp.map Prod.fst = [k1, k2, k3]) (A B C : List Ln) (h1 : CodeAt w b k1 A) (n1 : A.length ≤ 1100000) (h2 : CodeAt w b k2 B) (n2 : B.length ≤ 1100000) (h3 : CodeAt w b k3 C) (n3 : C.length ≤ 1100000) :
   Calls Try.prog 112 #[.pointer (some ⟨b, 0, none⟩), .int .i64 (i : Int)] w (LnsTold (A ++ jmpL i 23 (B.length + 2) :: (B ++ jmpL i 22 (C.length + 1) :: C)) w) := by
 have HW := hide h
 have hil := (List.getElem?_eq_some_iff.1 hx).1
 have hi0 : (0 : Int) ≤ (i : Int) := by omega
 have hiL : (i : Int) < (l.length : Int) := by omega
 have ck := h.cell
 have hbl := h.k.lt
 obtain ⟨ad1, e1, hab, q0, q1, q2, q3, q4, q5⟩ := acs_row h.s hx
 cases e1
 have HKI := fun (W : World) (hb : Below w.heap.size w W) => hide (kidsL_i W ad c l (h.s.below hb) h.m i x sp hx hks hx0 hx1)
 have hkl : sp.length = ([k1, k2, k3] : List Nat).length := by rw [← hsp]; simp
 have hkb : ([k1, k2, k3] : List Nat).length ≤ 262144 := by have h1 := kidsS_count _ _ _ hks; have h2 := h.m.1; rw [← hkl]; omega
 have hkm : (sp.map fun r => (r.1 : Int)) = ([k1, k2, k3] : List Nat).map (fun k : Nat => (k : Int)) := by rw [← hsp]; simp
 rw [hkl, hkm] at HKI
 obtain ⟨xk, xa, xb, xc, xd, xn⟩ := x
 simp only at q0 q1 q2 q3 q4 q5 hk
 subst hk
 have hb1 := (Below.refl w.heap.size w).alloc (Nat.le_refl _) (.cells #[.int .i64 2, .int .i64 xa, .int .i64 xb, .int .i64 xc, .int .i64 xd, .int .i64 xn] 49)
 have hk1 := Blk.new w 49 #[.int .i64 2, .int .i64 xa, .int .i64 xb, .int .i64 xc, .int .i64 xd, .int .i64 xn]
 have HB1 := hide hb1
 have HK1 := hide hk1
 have HKI1 := HKI _ hb1
 have hs1 : w.heap.size < (w.alloc (.cells #[.int .i64 2, .int .i64 xa, .int .i64 xb, .int .i64 xc, .int .i64 xd, .int .i64 xn] 49)).heap.size := by simp
 clear h hx hks hsp hkl hkm HKI hb1 hk1 hx0 hx1
 go_enter Try.func112, Try.ntmps112
 go_upto_region 3 with (go_at_call 156
                        with_reducible refine HKI1.out.mono ?_
                        rintro en w2 ⟨kv, rfl, hown, hb2⟩
                        have HB2 := hide (HB1.out.trans (hb2.mono HB1.out.size))
                        have hk2 := HK1.out.below hb2 HK1.out.lt
                        have HKA := hide (kids_at hown)
                        obtain ⟨oa, ca, rfl⟩ := own_slice hown
                        clear hown hb2)
 have x0 : w2.cell? ⟨w.heap.size, 0, none⟩ = some (.int .i64 2) := by rw [hk2.cell]; rfl
 have x1 : w2.cell? ⟨w.heap.size, 1, none⟩ = some (.int .i64 xa) := by rw [hk2.cell]; rfl
 have x2 : w2.cell? ⟨w.heap.size, 2, none⟩ = some (.int .i64 xb) := by rw [hk2.cell]; rfl
 have x3 : w2.cell? ⟨w.heap.size, 3, none⟩ = some (.int .i64 xc) := by rw [hk2.cell]; rfl
 have x4 : w2.cell? ⟨w.heap.size, 4, none⟩ = some (.int .i64 xd) := by rw [hk2.cell]; rfl
 have hs2 := hk2.lt
 have HK2 := hide hk2
 have HW2 := hide (HW.out.below HB2.out)
 clear hk2 ck hab q0 q1 q2 q3 q4 q5 HK1 HB1 HKI1 hs1
 have HC := hide (branch_three w2 b i _ k1 k2 k3 A B C HKA.out (h1.below HB2.out) n1 (h2.below HB2.out) n2 (h3.below HB2.out) n3)
 clear h1 h2 h3
 simp only [List.length_cons, List.length_nil, Nat.zero_add, Nat.reduceAdd] at HC ⊢
 go_wp2_with (go_at_call 157
              with_reducible refine HC.out.mono ?_
              rintro en w9 hlt
              have HLT := hide (LnsTold.down hlt HB2.out)
              obtain ⟨oa9, c9, he, -, -⟩ := hlt
              obtain ⟨v9, rfl⟩ : ∃ v9, en = .returned v9 := ⟨_, he⟩
              clear he)
 go_ret
 exact HLT.out
set_option maxRecDepth 100000 in
theorem code_and (w : World) (b : Nat) (ad : Addr) (c : Nat) (l : List Ac) (h : Wr w b ad c l) (i : Nat) (x : Ac) (hx : l[i]? = some x) (hk : x.k = 37) (hx0 : 0 ≤ x.n) (hx1 : x.n ≤ (l.length : Int)) (sp : List (Nat × Nat)) (hks : kidsS l x.n.toNat (i + 1) = some sp) (k1 k2 : Nat) (hsp : sp.map Prod.fst = [k1, k2]) (A B : List Ln) (h1 : CodeAt w b k1 A) (n1 : A.length ≤ 1100000) (h2 : CodeAt w b k2 B) (n2 : B.length ≤ 1100000) :
   Calls Try.prog 112 #[.pointer (some ⟨b, 0, none⟩), .int .i64 (i : Int)] w (LnsTold (A ++ jmpL i 23 (B.length + 2) :: (B ++ [jmpL i 22 2, oneL i 2 0 0 0 0])) w) := by
 have HW := hide h
 have hil := (List.getElem?_eq_some_iff.1 hx).1
 have hi0 : (0 : Int) ≤ (i : Int) := by omega
 have hiL : (i : Int) < (l.length : Int) := by omega
 have ck := h.cell
 have hbl := h.k.lt
 obtain ⟨ad1, e1, hab, q0, q1, q2, q3, q4, q5⟩ := acs_row h.s hx
 cases e1
 have HKI := fun (W : World) (hb : Below w.heap.size w W) => hide (kidsL_i W ad c l (h.s.below hb) h.m i x sp hx hks hx0 hx1)
 have hkl : sp.length = ([k1, k2] : List Nat).length := by rw [← hsp]; simp
 have hkb : ([k1, k2] : List Nat).length ≤ 262144 := by have h1 := kidsS_count _ _ _ hks; have h2 := h.m.1; rw [← hkl]; omega
 have hkm : (sp.map fun r => (r.1 : Int)) = ([k1, k2] : List Nat).map (fun k : Nat => (k : Int)) := by rw [← hsp]; simp
 rw [hkl, hkm] at HKI
 obtain ⟨xk, xa, xb, xc, xd, xn⟩ := x
 simp only at q0 q1 q2 q3 q4 q5 hk
 subst hk
 have hb1 := (Below.refl w.heap.size w).alloc (Nat.le_refl _) (.cells #[.int .i64 37, .int .i64 xa, .int .i64 xb, .int .i64 xc, .int .i64 xd, .int .i64 xn] 49)
 have hk1 := Blk.new w 49 #[.int .i64 37, .int .i64 xa, .int .i64 xb, .int .i64 xc, .int .i64 xd, .int .i64 xn]
 have HB1 := hide hb1
 have HK1 := hide hk1
 have HKI1 := HKI _ hb1
 have hs1 : w.heap.size < (w.alloc (.cells #[.int .i64 37, .int .i64 xa, .int .i64 xb, .int .i64 xc, .int .i64 xd, .int .i64 xn] 49)).heap.size := by simp
 clear h hx hks hsp hkl hkm HKI hb1 hk1 hx0 hx1
 go_enter Try.func112, Try.ntmps112
 go_upto_region 3 with (go_at_call 156
                        with_reducible refine HKI1.out.mono ?_
                        rintro en w2 ⟨kv, rfl, hown, hb2⟩
                        have HB2 := hide (HB1.out.trans (hb2.mono HB1.out.size))
                        have hk2 := HK1.out.below hb2 HK1.out.lt
                        have HKA := hide (kids_at hown)
                        obtain ⟨oa, ca, rfl⟩ := own_slice hown
                        clear hown hb2)
 have x0 : w2.cell? ⟨w.heap.size, 0, none⟩ = some (.int .i64 37) := by rw [hk2.cell]; rfl
 have x1 : w2.cell? ⟨w.heap.size, 1, none⟩ = some (.int .i64 xa) := by rw [hk2.cell]; rfl
 have x2 : w2.cell? ⟨w.heap.size, 2, none⟩ = some (.int .i64 xb) := by rw [hk2.cell]; rfl
 have x3 : w2.cell? ⟨w.heap.size, 3, none⟩ = some (.int .i64 xc) := by rw [hk2.cell]; rfl
 have x4 : w2.cell? ⟨w.heap.size, 4, none⟩ = some (.int .i64 xd) := by rw [hk2.cell]; rfl
 have hs2 := hk2.lt
 have HK2 := hide hk2
 have HW2 := hide (HW.out.below HB2.out)
 clear hk2 ck hab q0 q1 q2 q3 q4 q5 HK1 HB1 HKI1 hs1
 have HC := hide (both_two w2 b i _ k1 k2 A B HKA.out (h1.below HB2.out) n1 (h2.below HB2.out) n2)
 clear h1 h2
 simp only [List.length_cons, List.length_nil, Nat.zero_add, Nat.reduceAdd] at HC ⊢
 go_wp2_with (go_at_call 160
              with_reducible refine HC.out.mono ?_
              rintro en w9 hlt
              have HLT := hide (LnsTold.down hlt HB2.out)
              obtain ⟨oa9, c9, he, -, -⟩ := hlt
              obtain ⟨v9, rfl⟩ : ∃ v9, en = .returned v9 := ⟨_, he⟩
              clear he)
 go_ret
 exact HLT.out
set_option maxRecDepth 100000 in
theorem code_or (w : World) (b : Nat) (ad : Addr) (c : Nat) (l : List Ac) (h : Wr w b ad c l) (i : Nat) (x : Ac) (hx : l[i]? = some x) (hk : x.k = 38) (hx0 : 0 ≤ x.n) (hx1 : x.n ≤ (l.length : Int)) (sp : List (Nat × Nat)) (hks : kidsS l x.n.toNat (i + 1) = some sp) (k1 k2 : Nat) (hsp : sp.map Prod.fst = [k1, k2]) (A B : List Ln) (h1 : CodeAt w b k1 A) (n1 : A.length ≤ 1100000) (h2 : CodeAt w b k2 B) (n2 : B.length ≤ 1100000) :
   Calls Try.prog 112 #[.pointer (some ⟨b, 0, none⟩), .int .i64 (i : Int)] w (LnsTold (A ++ jmpL i 23 3 :: oneL i 2 1 0 0 0 :: jmpL i 22 (B.length + 1) :: B) w) := by
 have HW := hide h
 have hil := (List.getElem?_eq_some_iff.1 hx).1
 have hi0 : (0 : Int) ≤ (i : Int) := by omega
 have hiL : (i : Int) < (l.length : Int) := by omega
 have ck := h.cell
 have hbl := h.k.lt
 obtain ⟨ad1, e1, hab, q0, q1, q2, q3, q4, q5⟩ := acs_row h.s hx
 cases e1
 have HKI := fun (W : World) (hb : Below w.heap.size w W) => hide (kidsL_i W ad c l (h.s.below hb) h.m i x sp hx hks hx0 hx1)
 have hkl : sp.length = ([k1, k2] : List Nat).length := by rw [← hsp]; simp
 have hkb : ([k1, k2] : List Nat).length ≤ 262144 := by have h1 := kidsS_count _ _ _ hks; have h2 := h.m.1; rw [← hkl]; omega
 have hkm : (sp.map fun r => (r.1 : Int)) = ([k1, k2] : List Nat).map (fun k : Nat => (k : Int)) := by rw [← hsp]; simp
 rw [hkl, hkm] at HKI
 obtain ⟨xk, xa, xb, xc, xd, xn⟩ := x
 simp only at q0 q1 q2 q3 q4 q5 hk
 subst hk
 have hb1 := (Below.refl w.heap.size w).alloc (Nat.le_refl _) (.cells #[.int .i64 38, .int .i64 xa, .int .i64 xb, .int .i64 xc, .int .i64 xd, .int .i64 xn] 49)
 have hk1 := Blk.new w 49 #[.int .i64 38, .int .i64 xa, .int .i64 xb, .int .i64 xc, .int .i64 xd, .int .i64 xn]
 have HB1 := hide hb1
 have HK1 := hide hk1
 have HKI1 := HKI _ hb1
 have hs1 : w.heap.size < (w.alloc (.cells #[.int .i64 38, .int .i64 xa, .int .i64 xb, .int .i64 xc, .int .i64 xd, .int .i64 xn] 49)).heap.size := by simp
 clear h hx hks hsp hkl hkm HKI hb1 hk1 hx0 hx1
 go_enter Try.func112, Try.ntmps112
 go_upto_region 3 with (go_at_call 156
                        with_reducible refine HKI1.out.mono ?_
                        rintro en w2 ⟨kv, rfl, hown, hb2⟩
                        have HB2 := hide (HB1.out.trans (hb2.mono HB1.out.size))
                        have hk2 := HK1.out.below hb2 HK1.out.lt
                        have HKA := hide (kids_at hown)
                        obtain ⟨oa, ca, rfl⟩ := own_slice hown
                        clear hown hb2)
 have x0 : w2.cell? ⟨w.heap.size, 0, none⟩ = some (.int .i64 38) := by rw [hk2.cell]; rfl
 have x1 : w2.cell? ⟨w.heap.size, 1, none⟩ = some (.int .i64 xa) := by rw [hk2.cell]; rfl
 have x2 : w2.cell? ⟨w.heap.size, 2, none⟩ = some (.int .i64 xb) := by rw [hk2.cell]; rfl
 have x3 : w2.cell? ⟨w.heap.size, 3, none⟩ = some (.int .i64 xc) := by rw [hk2.cell]; rfl
 have x4 : w2.cell? ⟨w.heap.size, 4, none⟩ = some (.int .i64 xd) := by rw [hk2.cell]; rfl
 have hs2 := hk2.lt
 have HK2 := hide hk2
 have HW2 := hide (HW.out.below HB2.out)
 clear hk2 ck hab q0 q1 q2 q3 q4 q5 HK1 HB1 HKI1 hs1
 have HC := hide (either_two w2 b i _ k1 k2 A B HKA.out (h1.below HB2.out) n1 (h2.below HB2.out) n2)
 clear h1 h2
 simp only [List.length_cons, List.length_nil, Nat.zero_add, Nat.reduceAdd] at HC ⊢
 go_wp2_with (go_at_call 160
              with_reducible refine HC.out.mono ?_
              rintro en w9 hlt
              have HLT := hide (LnsTold.down hlt HB2.out)
              obtain ⟨oa9, c9, he, -, -⟩ := hlt
              obtain ⟨v9, rfl⟩ : ∃ v9, en = .returned v9 := ⟨_, he⟩
              clear he)
 go_ret
 exact HLT.out
set_option maxRecDepth 100000 in
theorem code_loop (w : World) (b : Nat) (ad : Addr) (c : Nat) (l : List Ac) (h : Wr w b ad c l) (i : Nat) (x : Ac) (hx : l[i]? = some x) (hk : x.k = 3) (hx0 : 0 ≤ x.n) (hx1 : x.n ≤ (l.length : Int)) (sp : List (Nat × Nat)) (hks : kidsS l x.n.toNat (i + 1) = some sp) (k1 k2 : Nat) (hsp : sp.map Prod.fst = [k1, k2]) (A B : List Ln) (h1 : CodeAt w b k1 A) (n1 : A.length ≤ 1100000) (h2 : CodeAt w b k2 B) (n2 : B.length ≤ 1100000) :
   Calls Try.prog 112 #[.pointer (some ⟨b, 0, none⟩), .int .i64 (i : Int)] w (LnsTold (oneL i 24 x.a 0 0 0 :: jmpL i 25 (A.length + B.length + 3) :: (A ++ jmpL i 26 (B.length + 2) :: (B ++ [jmpL i 27 (0 - A.length - B.length - 2)]))) w) := by
 have HW := hide h
 have hil := (List.getElem?_eq_some_iff.1 hx).1
 have hi0 : (0 : Int) ≤ (i : Int) := by omega
 have hiL : (i : Int) < (l.length : Int) := by omega
 have ck := h.cell
 have hbl := h.k.lt
 obtain ⟨ad1, e1, hab, q0, q1, q2, q3, q4, q5⟩ := acs_row h.s hx
 cases e1
 have HKI := fun (W : World) (hb : Below w.heap.size w W) => hide (kidsL_i W ad c l (h.s.below hb) h.m i x sp hx hks hx0 hx1)
 have hkl : sp.length = ([k1, k2] : List Nat).length := by rw [← hsp]; simp
 have hkb : ([k1, k2] : List Nat).length ≤ 262144 := by have h1 := kidsS_count _ _ _ hks; have h2 := h.m.1; rw [← hkl]; omega
 have hkm : (sp.map fun r => (r.1 : Int)) = ([k1, k2] : List Nat).map (fun k : Nat => (k : Int)) := by rw [← hsp]; simp
 rw [hkl, hkm] at HKI
 obtain ⟨xk, xa, xb, xc, xd, xn⟩ := x
 simp only at q0 q1 q2 q3 q4 q5 hk
 subst hk
 have hb1 := (Below.refl w.heap.size w).alloc (Nat.le_refl _) (.cells #[.int .i64 3, .int .i64 xa, .int .i64 xb, .int .i64 xc, .int .i64 xd, .int .i64 xn] 49)
 have hk1 := Blk.new w 49 #[.int .i64 3, .int .i64 xa, .int .i64 xb, .int .i64 xc, .int .i64 xd, .int .i64 xn]
 have HB1 := hide hb1
 have HK1 := hide hk1
 have HKI1 := HKI _ hb1
 have hs1 : w.heap.size < (w.alloc (.cells #[.int .i64 3, .int .i64 xa, .int .i64 xb, .int .i64 xc, .int .i64 xd, .int .i64 xn] 49)).heap.size := by simp
 clear h hx hks hsp hkl hkm HKI hb1 hk1 hx0 hx1
 go_enter Try.func112, Try.ntmps112
 go_upto_region 3 with (go_at_call 156
                        with_reducible refine HKI1.out.mono ?_
                        rintro en w2 ⟨kv, rfl, hown, hb2⟩
                        have HB2 := hide (HB1.out.trans (hb2.mono HB1.out.size))
                        have hk2 := HK1.out.below hb2 HK1.out.lt
                        have HKA := hide (kids_at hown)
                        obtain ⟨oa, ca, rfl⟩ := own_slice hown
                        clear hown hb2)
 have x0 : w2.cell? ⟨w.heap.size, 0, none⟩ = some (.int .i64 3) := by rw [hk2.cell]; rfl
 have x1 : w2.cell? ⟨w.heap.size, 1, none⟩ = some (.int .i64 xa) := by rw [hk2.cell]; rfl
 have x2 : w2.cell? ⟨w.heap.size, 2, none⟩ = some (.int .i64 xb) := by rw [hk2.cell]; rfl
 have x3 : w2.cell? ⟨w.heap.size, 3, none⟩ = some (.int .i64 xc) := by rw [hk2.cell]; rfl
 have x4 : w2.cell? ⟨w.heap.size, 4, none⟩ = some (.int .i64 xd) := by rw [hk2.cell]; rfl
 have hs2 := hk2.lt
 have HK2 := hide hk2
 have HW2 := hide (HW.out.below HB2.out)
 clear hk2 ck hab q0 q1 q2 q3 q4 q5 HK1 HB1 HKI1 hs1
 have H1 := hide (h1.below HB2.out)
 have H2 := hide (h2.below HB2.out)
 clear h1 h2
 simp only [List.length_cons, List.length_nil, Nat.zero_add, Nat.reduceAdd] at HKA ⊢
 obtain ⟨-, ad0, e0, hd0, q0⟩ := (HKA.out.below (Below.refl _ _)).get (j := 0) (k := k1) rfl
 cases e0
 have hz0 : ad0.add 0 = ad0 := by unfold Addr.add; split <;> simp_all
 rw [hz0] at q0
 clear hz0
 go_wp2_with fail
 go_at_call 112
 with_reducible refine (H1.out.call (Below.refl _ _)).mono ?_
 rintro en w3 ⟨o1, c1, rfl, hl, hb⟩
 have HWK := hide (Wk.start hl hb)
 have HB := hide hb
 clear hl hb
 obtain ⟨-, ad1, e1, hd1, q1⟩ := (HKA.out.below HB.out).get (j := 1) (k := k2) rfl
 cases e1
 rw [add_pos _ (by omega)] at q1
 go_wp2_with fail
 go_at_call 112
 with_reducible refine (H2.out.call HB.out).mono ?_
 rintro en w4 ⟨o2, c2, rfl, hl, hb⟩
 replace HWK := hide (HWK.out.more hl hb)
 replace HB := hide (HB.out.trans (hb.mono HB.out.size))
 clear hl hb
 have y1 : w4.cell? ⟨w.heap.size, 1, none⟩ = some (.int .i64 xa) := (HB.out.cell hs2).trans x1
 have hs4 := Nat.lt_of_lt_of_le hs2 HB.out.size
 go_wp2_with fail
 go_at_call 113
 with_reducible refine (one_v _ i 24 xa 0 0 0).mono ?_
 rintro en w5 ⟨rfl, hb⟩
 replace HWK := hide (HWK.out.below hb)
 clear hb
 go_wp2_with fail
 go_at_call 158
 with_reducible refine (jump_v _ i 25 (A.length + B.length + 3)).mono ?_
 rintro en w6 ⟨rfl, hb⟩
 replace HWK := hide (HWK.out.below hb)
 clear hb
 go_upto_region 10 with fail
 replace HWK := hide (HWK.out.fresh #[.int .i64 24, .int .i64 xa, .int .i64 0, .int .i64 0, .int .i64 0, .int .i64 (i : Int), .bool false, .int .i64 25, .int .i64 ((A.length : Int) + (B.length : Int) + 3), .int .i64 0, .int .i64 0, .int .i64 0, .int .i64 (i : Int), .bool true] (m := [oneL i 24 xa 0 0 0, jmpL i 25 (A.length + B.length + 3)]) rfl (by simp))
 obtain ⟨w7, hw7⟩ : ∃ w7, w6.alloc (.cells #[.int .i64 24, .int .i64 xa, .int .i64 0, .int .i64 0, .int .i64 0, .int .i64 (i : Int), .bool false, .int .i64 25, .int .i64 ((A.length : Int) + (B.length : Int) + 3), .int .i64 0, .int .i64 0, .int .i64 0, .int .i64 (i : Int), .bool true] 156) = w7 := ⟨_, rfl⟩
 obtain ⟨g7, hg7⟩ : ∃ g7, w6.heap.size = g7 := ⟨_, rfl⟩
 rw [hw7, hg7] at HWK ⊢
 simp only [List.length_cons, List.length_nil, Nat.zero_add, Nat.reduceAdd] at HWK
 clear hw7 hg7
 go_upto_region 11 with (at_builtin
                         with_reducible refine wk_own HWK.out rfl (.tmp 58) (.tmp 59) rfl (u := Value.slice o1 A.length c1) (m := A) (by simp) rfl rfl (by simp only [List.length_append, List.length_cons, List.length_nil]; omega) ?_
                         rintro o8 c8 n8 w8 HNn8 hk
                         replace HWK := hide hk
                         clear hk)
 go_wp2_with fail
 go_at_call 158
 with_reducible refine (jump_v _ i 26 (B.length + 2)).mono ?_
 rintro en w9 ⟨rfl, hb⟩
 replace HWK := hide (HWK.out.below hb)
 clear hb
 go_upto_region 12 with (at_builtin
                         with_reducible refine wk_lines HWK.out rfl (.tmp 61) (.tmp 67) rfl [jmpL i 26 (B.length + 2)] #[.int .i64 26, .int .i64 ((B.length : Int) + 2), .int .i64 0, .int .i64 0, .int .i64 0, .int .i64 (i : Int), .bool true] 1 rfl rfl rfl (by simp only [List.length_append, List.length_cons, List.length_nil]; omega) ?_
                         rintro o10 c10 n10 w10 HNn10 hk
                         replace HWK := hide hk
                         clear hk)
 go_upto_region 13 with (at_builtin
                         with_reducible refine wk_own HWK.out rfl (.tmp 69) (.tmp 70) rfl (u := Value.slice o2 B.length c2) (m := B) (by simp) rfl rfl (by simp only [List.length_append, List.length_cons, List.length_nil]; omega) ?_
                         rintro o11 c11 n11 w11 HNn11 hk
                         replace HWK := hide hk
                         clear hk)
 go_wp2_with fail
 go_at_call 158
 with_reducible refine (jump_v _ i 27 (-(A.length : Int) - (B.length : Int) - 2)).mono ?_
 rintro en w12 ⟨rfl, hb⟩
 replace HWK := hide (HWK.out.below hb)
 clear hb
 go_wp2_with (at_builtin
              with_reducible refine wk_lines HWK.out rfl (.tmp 72) (.tmp 82) rfl [jmpL i 27 (-(A.length : Int) - (B.length : Int) - 2)] #[.int .i64 27, .int .i64 (-(A.length : Int) - (B.length : Int) - 2), .int .i64 0, .int .i64 0, .int .i64 0, .int .i64 (i : Int), .bool true] 1 rfl rfl rfl (by simp only [List.length_append, List.length_cons, List.length_nil]; omega) ?_
              rintro o13 c13 n13 w13 HNn13 hk
              replace HWK := hide hk
              clear hk)
 go_ret
 exact LnsTold.down (HWK.out.told (by simp; try omega)) HB2.out
set_option maxRecDepth 100000 in
theorem code_tag (w : World) (b : Nat) (ad : Addr) (c : Nat) (l : List Ac) (h : Wr w b ad c l) (i : Nat) (x : Ac) (hx : l[i]? = some x) (hk : x.k = 25) (hx0 : 0 ≤ x.n) (hx1 : x.n ≤ (l.length : Int)) (sp : List (Nat × Nat)) (hks : kidsS l x.n.toNat (i + 1) = some sp) (k1 : Nat) (hsp : sp.map Prod.fst = [k1]) (y : Ac) (hy : l[k1]? = some y) :
   Calls Try.prog 112 #[.pointer (some ⟨b, 0, none⟩), .int .i64 (i : Int)] w (LnsTold ([itemL i y 9 10 x.a]) w) := by
 have HW := hide h
 have hil := (List.getElem?_eq_some_iff.1 hx).1
 have hi0 : (0 : Int) ≤ (i : Int) := by omega
 have hiL : (i : Int) < (l.length : Int) := by omega
 have ck := h.cell
 have hbl := h.k.lt
 obtain ⟨ad1, e1, hab, q0, q1, q2, q3, q4, q5⟩ := acs_row h.s hx
 cases e1
 have HKI := fun (W : World) (hb : Below w.heap.size w W) => hide (kidsL_i W ad c l (h.s.below hb) h.m i x sp hx hks hx0 hx1)
 have hkl : sp.length = ([k1] : List Nat).length := by rw [← hsp]; simp
 have hkb : ([k1] : List Nat).length ≤ 262144 := by have h1 := kidsS_count _ _ _ hks; have h2 := h.m.1; rw [← hkl]; omega
 have hkm : (sp.map fun r => (r.1 : Int)) = ([k1] : List Nat).map (fun k : Nat => (k : Int)) := by rw [← hsp]; simp
 rw [hkl, hkm] at HKI
 obtain ⟨xk, xa, xb, xc, xd, xn⟩ := x
 simp only at q0 q1 q2 q3 q4 q5 hk
 subst hk
 have hb1 := (Below.refl w.heap.size w).alloc (Nat.le_refl _) (.cells #[.int .i64 25, .int .i64 xa, .int .i64 xb, .int .i64 xc, .int .i64 xd, .int .i64 xn] 49)
 have hk1 := Blk.new w 49 #[.int .i64 25, .int .i64 xa, .int .i64 xb, .int .i64 xc, .int .i64 xd, .int .i64 xn]
 have HB1 := hide hb1
 have HK1 := hide hk1
 have HKI1 := HKI _ hb1
 have hs1 : w.heap.size < (w.alloc (.cells #[.int .i64 25, .int .i64 xa, .int .i64 xb, .int .i64 xc, .int .i64 xd, .int .i64 xn] 49)).heap.size := by simp
 clear h hx hks hsp hkl hkm HKI hb1 hk1 hx0 hx1
 go_enter Try.func112, Try.ntmps112
 go_upto_region 3 with (go_at_call 156
                        with_reducible refine HKI1.out.mono ?_
                        rintro en w2 ⟨kv, rfl, hown, hb2⟩
                        have HB2 := hide (HB1.out.trans (hb2.mono HB1.out.size))
                        have hk2 := HK1.out.below hb2 HK1.out.lt
                        have HKA := hide (kids_at hown)
                        obtain ⟨oa, ca, rfl⟩ := own_slice hown
                        clear hown hb2)
 have x0 : w2.cell? ⟨w.heap.size, 0, none⟩ = some (.int .i64 25) := by rw [hk2.cell]; rfl
 have x1 : w2.cell? ⟨w.heap.size, 1, none⟩ = some (.int .i64 xa) := by rw [hk2.cell]; rfl
 have x2 : w2.cell? ⟨w.heap.size, 2, none⟩ = some (.int .i64 xb) := by rw [hk2.cell]; rfl
 have x3 : w2.cell? ⟨w.heap.size, 3, none⟩ = some (.int .i64 xc) := by rw [hk2.cell]; rfl
 have x4 : w2.cell? ⟨w.heap.size, 4, none⟩ = some (.int .i64 xd) := by rw [hk2.cell]; rfl
 have hs2 := hk2.lt
 have HK2 := hide hk2
 have HW2 := hide (HW.out.below HB2.out)
 clear hk2 ck hab q0 q1 q2 q3 q4 q5 HK1 HB1 HKI1 hs1
 obtain ⟨o, a0, a1, a2, a3, hI⟩ := item_form i y 9 10 xa
 have HIT := hide (item_v w2.drew b ad c l (HW2.out.below (Below.refl _ w2).drew) i k1 y 9 10 xa hy hI)
 have HI9 := hide hI
 clear hI hy
 simp only [List.length_cons, List.length_nil, Nat.zero_add, Nat.reduceAdd] at HKA ⊢
 obtain ⟨-, ad0, e0, hd0, q0⟩ := (HKA.out.below (Below.refl _ _)).get (j := 0) (k := k1) rfl
 cases e0
 have hz0 : ad0.add 0 = ad0 := by unfold Addr.add; split <;> simp_all
 rw [hz0] at q0
 clear hz0
 go_upto_region 17 with fail
 go_still_tail 7, (by kernel_rfl)
 change wpList _ _ _ _ _ w2.drew
 go_wp2_with fail
 go_at_call 159
 refine HIT.out.mono ?_
 rintro en w4 ⟨rfl, hb⟩
 have HB := hide ((Below.refl _ w2).drew.trans hb)
 clear hb
 go_wp2_with fail
 go_ret
 rw [HI9.out]
 exact LnsTold.down (lnsTold (w := w2) (Lns.of_blk (l := [oneL i o a0 a1 a2 a3]) (Blk.new w4 _ #[.int .i64 o, .int .i64 a0, .int .i64 a1, .int .i64 a2, .int .i64 a3, .int .i64 (i : Int), .bool false]) rfl HB.out.size (by simp)) (HB.out.alloc HB.out.size _)) HB2.out
set_option maxRecDepth 100000 in
theorem code_mark (w : World) (b : Nat) (ad : Addr) (c : Nat) (l : List Ac) (h : Wr w b ad c l) (i : Nat) (x : Ac) (hx : l[i]? = some x) (hk : x.k = 5) (hx0 : 0 ≤ x.n) (hx1 : x.n ≤ (l.length : Int)) (sp : List (Nat × Nat)) (hks : kidsS l x.n.toNat (i + 1) = some sp) (k1 k2 : Nat) (hsp : sp.map Prod.fst = [k1, k2]) (y : Ac) (hy : l[k1]? = some y) (A : List Ln) (h1 : CodeAt w b k2 A) (n1 : A.length ≤ 1100000) :
   Calls Try.prog 112 #[.pointer (some ⟨b, 0, none⟩), .int .i64 (i : Int)] w (LnsTold (A ++ [itemL i y 29 30 x.a]) w) := by
 have HW := hide h
 have hil := (List.getElem?_eq_some_iff.1 hx).1
 have hi0 : (0 : Int) ≤ (i : Int) := by omega
 have hiL : (i : Int) < (l.length : Int) := by omega
 have ck := h.cell
 have hbl := h.k.lt
 obtain ⟨ad1, e1, hab, q0, q1, q2, q3, q4, q5⟩ := acs_row h.s hx
 cases e1
 have HKI := fun (W : World) (hb : Below w.heap.size w W) => hide (kidsL_i W ad c l (h.s.below hb) h.m i x sp hx hks hx0 hx1)
 have hkl : sp.length = ([k1, k2] : List Nat).length := by rw [← hsp]; simp
 have hkb : ([k1, k2] : List Nat).length ≤ 262144 := by have h1 := kidsS_count _ _ _ hks; have h2 := h.m.1; rw [← hkl]; omega
 have hkm : (sp.map fun r => (r.1 : Int)) = ([k1, k2] : List Nat).map (fun k : Nat => (k : Int)) := by rw [← hsp]; simp
 rw [hkl, hkm] at HKI
 obtain ⟨xk, xa, xb, xc, xd, xn⟩ := x
 simp only at q0 q1 q2 q3 q4 q5 hk
 subst hk
 have hb1 := (Below.refl w.heap.size w).alloc (Nat.le_refl _) (.cells #[.int .i64 5, .int .i64 xa, .int .i64 xb, .int .i64 xc, .int .i64 xd, .int .i64 xn] 49)
 have hk1 := Blk.new w 49 #[.int .i64 5, .int .i64 xa, .int .i64 xb, .int .i64 xc, .int .i64 xd, .int .i64 xn]
 have HB1 := hide hb1
 have HK1 := hide hk1
 have HKI1 := HKI _ hb1
 have hs1 : w.heap.size < (w.alloc (.cells #[.int .i64 5, .int .i64 xa, .int .i64 xb, .int .i64 xc, .int .i64 xd, .int .i64 xn] 49)).heap.size := by simp
 clear h hx hks hsp hkl hkm HKI hb1 hk1 hx0 hx1
 go_enter Try.func112, Try.ntmps112
 go_upto_region 3 with (go_at_call 156
                        with_reducible refine HKI1.out.mono ?_
                        rintro en w2 ⟨kv, rfl, hown, hb2⟩
                        have HB2 := hide (HB1.out.trans (hb2.mono HB1.out.size))
                        have hk2 := HK1.out.below hb2 HK1.out.lt
                        have HKA := hide (kids_at hown)
                        obtain ⟨oa, ca, rfl⟩ := own_slice hown
                        clear hown hb2)
 have x0 : w2.cell? ⟨w.heap.size, 0, none⟩ = some (.int .i64 5) := by rw [hk2.cell]; rfl
 have x1 : w2.cell? ⟨w.heap.size, 1, none⟩ = some (.int .i64 xa) := by rw [hk2.cell]; rfl
 have x2 : w2.cell? ⟨w.heap.size, 2, none⟩ = some (.int .i64 xb) := by rw [hk2.cell]; rfl
 have x3 : w2.cell? ⟨w.heap.size, 3, none⟩ = some (.int .i64 xc) := by rw [hk2.cell]; rfl
 have x4 : w2.cell? ⟨w.heap.size, 4, none⟩ = some (.int .i64 xd) := by rw [hk2.cell]; rfl
 have hs2 := hk2.lt
 have HK2 := hide hk2
 have HW2 := hide (HW.out.below HB2.out)
 clear hk2 ck hab q0 q1 q2 q3 q4 q5 HK1 HB1 HKI1 hs1
 obtain ⟨o, a0, a1, a2, a3, hI⟩ := item_form i y 29 30 xa
 have HI1 := hide (fun (X : World) (hb : Below w2.heap.size w2 X) => (item_v X b ad c l (HW2.out.below hb) i k1 y 29 30 xa hy hI).mono (fun e w' hh => (⟨_, hh.1, rfl, hh.2, hb.trans (hh.2.mono hb.size)⟩ : ∃ v', e = .returned v' ∧ v' = .agg #[.int .i64 o, .int .i64 a0, .int .i64 a1, .int .i64 a2, .int .i64 a3, .int .i64 (i : Int), .bool false] ∧ Below X.heap.size X w' ∧ Below w2.heap.size w2 w')))
 have HC1 := hide (fun (X : World) (hb : Below w2.heap.size w2 X) => ((h1.below HB2.out).call hb).mono (fun e w' hh => (by
   obtain ⟨oa5, c5, e1, hl5, hb5⟩ := hh
   exact ⟨_, e1, ⟨oa5, c5, rfl⟩, ⟨hl5.down hb.size, hb.trans (hb5.mono hb.size), fun p hp => (by cases hp)⟩, hb5, hb.trans (hb5.mono hb.size)⟩ : ∃ v', e = .returned v' ∧ (∃ oa c, v' = .slice oa A.length c) ∧ Wk w2 w' v' A [] ∧ Below X.heap.size X w' ∧ Below w2.heap.size w2 w')))
 have HI9 := hide hI
 clear hI hy h1
 simp only [List.length_cons, List.length_nil, Nat.zero_add, Nat.reduceAdd] at HKA ⊢
 obtain ⟨-, ad0, e0, hd0, q0⟩ := (HKA.out.below (Below.refl _ _)).get (j := 0) (k := k1) rfl
 cases e0
 have hz0 : ad0.add 0 = ad0 := by unfold Addr.add; split <;> simp_all
 rw [hz0] at q0
 clear hz0
 obtain ⟨-, ad1, e1, hd1, q1⟩ := HKA.out.get (j := 1) (k := k2) rfl
 cases e1
 rw [add_pos _ (by omega)] at q1
 go_upto_region 15 with fail
 go_region_law (first
   | (refine step_calls rfl 112 #[.tmp 86, .tmp 89] #[150, 3] rfl Try.f112 Try.func112 (by decide) (by decide) #[.pointer (some ⟨b, 0, none⟩), .int .i64 (k2 : Int)] (by simp [Act.eval, Act.put]) (fun v' w' => (∃ oa c, v' = .slice oa A.length c) ∧ Wk w2 w' v' A [] ∧ Below _ _ w' ∧ Below w2.heap.size w2 w') (HC1.out _ (by first | exact (Below.refl _ w2).drew | exact HBI.out | exact HBI.out.alloc HBI.out.size _)) ?_
      rintro v4 w4 ⟨⟨oa4, c4, rfl⟩, hwk, hbx, hb⟩
      have HWK := hide hwk
      have HBX := hide hbx
      have HBC := hide hb
      have r0 := (hb.cell (p := ad0) hd0).trans q0
      have r1 := (hb.cell (p := ⟨w.heap.size, 1, none⟩) hs2).trans x1
      have hrs := Nat.lt_of_lt_of_le hs2 hb.size
      clear hwk hb hbx)
   | (refine step_calls rfl 159 #[.tmp 91, .tmp 92, .tmp 95, .const (.int .i64 29), .const (.int .i64 30), .tmp 97] #[150, 3, 3, 3, 3, 3] rfl Try.f159 Try.func159 (by decide) (by decide) #[.pointer (some ⟨b, 0, none⟩), .int .i64 (i : Int), .int .i64 (k1 : Int), .int .i64 29, .int .i64 30, .int .i64 xa] (by simp [Act.eval, Act.put]) (fun v' w' => v' = .agg #[.int .i64 o, .int .i64 a0, .int .i64 a1, .int .i64 a2, .int .i64 a3, .int .i64 (i : Int), .bool false] ∧ Below _ _ w' ∧ Below w2.heap.size w2 w') (HI1.out _ (by first | exact (Below.refl _ w2).drew | exact HBC.out)) ?_
      rintro v5 w5 ⟨rfl, hbx, hb⟩
      have HBI := hide hb
      have HBY := hide hbx
      have s1 := (hb.cell (p := ⟨ad0.block, ad0.off + 1, none⟩) hd1).trans q1
      clear hb hbx)
   | (refine step_wk (m := [oneL i o a0 a1 a2 a3]) (by first | exact HWK.out | exact HWK.out.below HBY.out | exact (HWK.out.below HBY.out).below ((Below.refl _ _).alloc (Nat.le_refl _) _) | exact HWK.out.below ((Below.refl _ _).alloc (Nat.le_refl _) _)) rfl (.tmp 90) (.tmp 99) rfl _ _ 1 (by first | exact Blk.new _ _ _ | exact (Blk.new w5 _ _).below HBX.out (Blk.lt (Blk.new w5 _ _))) (by simp [Act.eval, Act.put]) (by simp [Act.eval, Act.put]) rfl (by simp; omega) ?_
      rintro oa9 c9 N9 w9 HN9 hk
      have HWF := hide hk
      clear hk))
 all_goals
   simp only [List.getElem_toArray, List.getElem_cons_succ, List.getElem_cons_zero, Act.put, List.setIfInBounds_toArray, List.set_cons_zero, List.set_cons_succ]
   go_wp2_with fail
   go_ret
   exact LnsTold.down (HWF.out.told (by rw [HI9.out])) HB2.out
set_option maxRecDepth 100000 in
theorem code_block (w : World) (b : Nat) (ad : Addr) (c : Nat) (l : List Ac) (h : Wr w b ad c l) (i : Nat) (x : Ac) (hx : l[i]? = some x) (hk : x.k = 1) (hx0 : 0 ≤ x.n) (hx1 : x.n ≤ (l.length : Int)) (sp : List (Nat × Nat)) (hks : kidsS l x.n.toNat (i + 1) = some sp) (ks : List Nat) (hsp : sp.map Prod.fst = ks) (G : Nat → List Ln) (hC : ∀ k ∈ ks, CodeAt w b k (G k)) (hn : ((ks.map G).flatten).length ≤ 1100000) :
   Calls Try.prog 112 #[.pointer (some ⟨b, 0, none⟩), .int .i64 (i : Int)] w (LnsTold ((ks.map G).flatten) w) := by
 have HW := hide h
 have hil := (List.getElem?_eq_some_iff.1 hx).1
 have hi0 : (0 : Int) ≤ (i : Int) := by omega
 have hiL : (i : Int) < (l.length : Int) := by omega
 have ck := h.cell
 have hbl := h.k.lt
 obtain ⟨ad1, e1, hab, q0, q1, q2, q3, q4, q5⟩ := acs_row h.s hx
 cases e1
 have HKI := fun (W : World) (hb : Below w.heap.size w W) => hide (kidsL_i W ad c l (h.s.below hb) h.m i x sp hx hks hx0 hx1)
 have hkl : sp.length = (ks : List Nat).length := by rw [← hsp]; simp
 have hkb : (ks : List Nat).length ≤ 262144 := by have h1 := kidsS_count _ _ _ hks; have h2 := h.m.1; rw [← hkl]; omega
 have hkm : (sp.map fun r => (r.1 : Int)) = (ks : List Nat).map (fun k : Nat => (k : Int)) := by rw [← hsp]; simp
 rw [hkl, hkm] at HKI
 obtain ⟨xk, xa, xb, xc, xd, xn⟩ := x
 simp only at q0 q1 q2 q3 q4 q5 hk
 subst hk
 have hb1 := (Below.refl w.heap.size w).alloc (Nat.le_refl _) (.cells #[.int .i64 1, .int .i64 xa, .int .i64 xb, .int .i64 xc, .int .i64 xd, .int .i64 xn] 49)
 have hk1 := Blk.new w 49 #[.int .i64 1, .int .i64 xa, .int .i64 xb, .int .i64 xc, .int .i64 xd, .int .i64 xn]
 have HB1 := hide hb1
 have HK1 := hide hk1
 have HKI1 := HKI _ hb1
 have hs1 : w.heap.size < (w.alloc (.cells #[.int .i64 1, .int .i64 xa, .int .i64 xb, .int .i64 xc, .int .i64 xd, .int .i64 xn] 49)).heap.size := by simp
 clear h hx hks hsp hkl hkm HKI hb1 hk1 hx0 hx1
 go_enter Try.func112, Try.ntmps112
 go_upto_region 3 with (go_at_call 156
                        with_reducible refine HKI1.out.mono ?_
                        rintro en w2 ⟨kv, rfl, hown, hb2⟩
                        have HB2 := hide (HB1.out.trans (hb2.mono HB1.out.size))
                        have hk2 := HK1.out.below hb2 HK1.out.lt
                        have HKA := hide (kids_at hown)
                        obtain ⟨oa, ca, rfl⟩ := own_slice hown
                        clear hown hb2)
 have x0 : w2.cell? ⟨w.heap.size, 0, none⟩ = some (.int .i64 1) := by rw [hk2.cell]; rfl
 have x1 : w2.cell? ⟨w.heap.size, 1, none⟩ = some (.int .i64 xa) := by rw [hk2.cell]; rfl
 have x2 : w2.cell? ⟨w.heap.size, 2, none⟩ = some (.int .i64 xb) := by rw [hk2.cell]; rfl
 have x3 : w2.cell? ⟨w.heap.size, 3, none⟩ = some (.int .i64 xc) := by rw [hk2.cell]; rfl
 have x4 : w2.cell? ⟨w.heap.size, 4, none⟩ = some (.int .i64 xd) := by rw [hk2.cell]; rfl
 have hs2 := hk2.lt
 have HK2 := hide hk2
 have HW2 := hide (HW.out.below HB2.out)
 clear hk2 ck hab q0 q1 q2 q3 q4 q5 HK1 HB1 HKI1 hs1
 have HC := hide (fun k (hk : k ∈ ks) => (hC k hk).below HB2.out)
 have HNL := hide hn
 have hkl := kids_short HKA.out
 clear hC hn
 go_upto_region 22 with fail
 have HWK := hide (Wk.start (w0 := w2) (Lns.nil w2 w2.heap.size) (Below.refl _ _))
 go_wp2_with fail
 go_loopw [10, 11] (fun t10 t11 W => ∃ (j N : Nat) (oa : Option Addr) (c : Nat), t11 = .int .i64 (j : Int) ∧ t10 = .slice oa N c ∧ j ≤ ks.length ∧ Hid (N = (((ks.take j).map G).flatten).length) ∧ Wk w2 W (.slice oa N c) ((ks.take j).map G).flatten []) (fun _ t11 _ => ks.length - (intOf t11).toNat)
 case atStart => exact ⟨0, 0, none, 0, rfl, rfl, Nat.zero_le _, hide rfl, HWK.out⟩
 case round =>
   clear HWK
   obtain ⟨j, N, oo, co, rfl, rfl, hj, HN, hwk⟩ := hrel
   rename World => W
   have HWK := hide hwk
   have HB := hide hwk.b
   have u1 := IntWalk.i64_in ((j : Int) + 1) (by omega)
   clear hwk
   by_cases hlt : j < ks.length
   · have hltI : (j : Int) < (ks.length : Int) := by omega
     have hltN : decide (j < ks.length) = true := by simp [hlt]
     have hj0 : (0 : Int) ≤ (j : Int) := by omega
     obtain ⟨k, hk⟩ : ∃ k, ks[j]? = some k := ⟨_, List.getElem?_eq_getElem hlt⟩
     obtain ⟨-, adk, ek, hdk, qk⟩ := (HKA.out.below HB.out).get hk
     cases ek
     have HCK := hide ((HC.out k (List.mem_of_getElem? hk)).call HB.out)
     have HTK := hide (flatL_succ G hk)
     have hsz := HNL.out
     have hsz2 := flatL_le G ks (j + 1)
     rw [HTK.out, List.length_append] at hsz2
     have hsz3 : (((ks.take j).map G).flatten).length + (G k).length ≤ 1100000 := by omega
     have HSZ := hide hsz3
     clear hk hsz hsz2 hsz3 hdk
     obtain ⟨L, hL⟩ : ∃ L, ((ks.take j).map G).flatten = L := ⟨_, rfl⟩
     rw [hL] at HWK HTK HSZ HN
     clear hL
     go_wp2_with fail
     go_at_call 112
     refine HCK.out.mono ?_
     rintro en w4 ⟨o4, c4, rfl, hl, hb⟩
     have HW4 := hide (HWK.out.more hl hb)
     clear hl hb qk
     go_wp2_with (at_builtin
                  refine wk_own HW4.out rfl (.tmp 128) (.tmp 134) rfl (u := Value.slice o4 (G k).length c4) (m := G k) (by simp) rfl rfl (Nat.le_trans HSZ.out (by decide)) ?_
                  rintro o5 c5 N5 w5 HN5 hk
                  have HW5 := hide hk.drop
                  clear hk)
     go_roundw
     case rel => exact ⟨j + 1, N5, o5, c5, by go_num, rfl, by omega, by rw [HTK.out]; exact HN5, by rw [HTK.out]; exact HW5.out⟩
     case measure =>
       simp only [intOf]
       omega
   · have hltI : ¬ (j : Int) < (ks.length : Int) := by omega
     have hltN : decide (j < ks.length) = false := by simp; omega
     obtain rfl : j = ks.length := by omega
     rw [List.take_length] at HN HWK
     have y0 : W.cell? ⟨w.heap.size, 0, none⟩ = some (.int .i64 1) := (HB.out.cell hs2).trans x0
     go_wp2_with fail
     go_ret
     exact LnsTold.down (HWK.out.told rfl) HB2.out
end Go.Proofs.Ytdpokdcendgfeaa
