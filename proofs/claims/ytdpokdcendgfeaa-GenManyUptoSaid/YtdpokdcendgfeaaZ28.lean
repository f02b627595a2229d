/- Several texts in one: The reference's program under way in memory: a block whose cells are rows of the call's own, all apart. The walk of the reference's add: an event's code behind what is there. The walk of the reference's add: an event's code behind what is there. The reference's program under way: appends of several elements. Conditions: those of each. -/
import Derived.Test.YtdpokdcendgfeaaZ26
import Derived.Test.YtdpokdcendgfeaaZ10
import Derived.Deep.DeepMust
set_option linter.unusedSimpArgs false
set_option linter.unusedVariables false
set_option maxHeartbeats 40000000
namespace Go.Proofs.Ytdpokdcendgfeaa
open Go.RowKit
/-- what a row is -/
structure RwT where
 t : TypeId
 sz : Nat
 n : Nat
 xs : List Value
/-- the program under way -/
structure Md (W : World) (B mb : Nat) (ms : Int) (v : Nat → Value) (s : Nat → RwT) : Prop where
 k : Blk W mb 80 #[v 0, v 1, v 2, v 3, .int .i64 ms, v 5, v 6, v 7]
 o : ∀ i, i < 8 → i ≠ 4 → W.ownsRow B (s i).t (s i).sz (v i) (s i).n (s i).xs
 a : ∀ i j, i < 8 → j < 8 → i ≠ 4 → j ≠ 4 → i ≠ j → Apart (v i) (v j)
 t : ∀ i, (s i).t ≠ 80
 b : B ≤ mb
section
variable {W W' w1 w2 : World} {B mb : Nat} {ms : Int} {v : Nat → Value} {s : Nat → RwT} {u : Value}
theorem Md.grow (h : Md W B mb ms v s) (hb : Below W.heap.size W W') : Md W' B mb ms v s :=
 ⟨h.k.below hb h.k.lt, fun i h1 h2 => own_below (h.o i h1 h2) hb (Nat.le_refl _), h.a, h.t, h.b⟩
theorem Md.drew (h : Md W B mb ms v s) : Md W.drew B mb ms v s := h.grow (Below.refl _ W).drew
theorem Md.size (h : Md W B mb ms v s) : B ≤ W.heap.size := by have := h.b; have := h.k.lt; omega
theorem Md.cells (h : Md W B mb ms v s) : (W.cell? ⟨mb, 0, none⟩ = some (v 0) ∧ W.cell? ⟨mb, 1, none⟩ = some (v 1) ∧ W.cell? ⟨mb, 2, none⟩ = some (v 2) ∧ W.cell? ⟨mb, 3, none⟩ = some (v 3) ∧ W.cell? ⟨mb, 4, none⟩ = some (.int .i64 ms) ∧ W.cell? ⟨mb, 5, none⟩ = some (v 5) ∧ W.cell? ⟨mb, 6, none⟩ = some (v 6) ∧ W.cell? ⟨mb, 7, none⟩ = some (v 7)) ∧ ∀ j, W.frozen? ⟨mb, j, none⟩ = false :=
 ⟨⟨by rw [h.k.cell]; rfl, by rw [h.k.cell]; rfl, by rw [h.k.cell]; rfl, by rw [h.k.cell]; rfl, by rw [h.k.cell]; rfl, by rw [h.k.cell]; rfl, by rw [h.k.cell]; rfl, by rw [h.k.cell]; rfl⟩, fun j => h.k.frozen j⟩
theorem upd_ne {α : Type} {f : Nat → α} {i j : Nat} {x : α} (h : j ≠ i) : upd f i x j = f j := by simp [upd, h]
theorem upd_eq {α : Type} {f : Nat → α} {i : Nat} {x : α} : upd f i x i = x := by simp [upd]
/-- an append to one of the rows, and its slice stored -/
theorem Md.app (h : Md W B mb ms v s) (i : Nat) (hi : i < 8) (h4 : i ≠ 4) {n' : Nat} {xs' : List Value} (h1 : Below W.heap.size W w1) (hown : w2.ownsRow B (s i).t (s i).sz u n' xs') (hg : w1.grownBy w2 (v i).ownBlock) (hat : u.ownBlock = (v i).ownBlock ∨ u.ownBlock = some w1.heap.size) :
   Md (w2.setCell ⟨mb, i, none⟩ u) B mb ms (upd v i u) (upd s i ⟨(s i).t, (s i).sz, n', xs'⟩) ∧ Below B W (w2.setCell ⟨mb, i, none⟩ u) := by
 have hm := h.grow h1
 have hvb : ∀ j, j < 8 → j ≠ 4 → (v j).ownBlock ≠ some mb := fun j j1 j2 => own_blk_ne (hm.o j j1 j2) hm.k (hm.t j)
 have hk2 : Blk w2 mb 80 #[v 0, v 1, v 2, v 3, .int .i64 ms, v 5, v 6, v 7] := hm.k.grown hg (fun e => hvb i hi h4 e.symm)
 have hub : u.ownBlock ≠ some mb := by
   rcases hat with e | e
   · rw [e]; exact hvb i hi h4
   · rw [e]
     intro e2
     injection e2 with e2
     have := hm.k.lt
     omega
 have hkeep : ∀ j, j < 8 → j ≠ 4 → j ≠ i → w2.ownsRow B (s j).t (s j).sz (v j) (s j).n (s j).xs := fun j j1 j2 j3 => own_keep (hm.o j j1 j2) (fun k hk => hg.block k ((hm.o j j1 j2).lt k hk).2 (fun e => h.a i j hi j1 h4 j2 (Ne.symm j3) k e.symm hk))
 refine ⟨⟨?_, fun j j1 j2 => ?_, fun j k j1 k1 j2 k2 hjk => ?_, fun j => ?_, h.b⟩, ?_⟩
 · have hs := hk2.set_ i u
   have hi8 : i = 0 ∨ i = 1 ∨ i = 2 ∨ i = 3 ∨ i = 5 ∨ i = 6 ∨ i = 7 := by omega
   rcases hi8 with rfl | rfl | rfl | rfl | rfl | rfl | rfl <;> simpa [upd] using hs
 · by_cases hji : j = i
   · subst hji
     rw [upd_eq, upd_eq]
     exact own_far hown (p := ⟨mb, j, none⟩) hub u
   · rw [upd_ne hji, upd_ne hji]
     exact own_far (hkeep j j1 j2 hji) (p := ⟨mb, i, none⟩) (hvb j j1 j2) u
 · have hnew : ∀ m, m < 8 → m ≠ 4 → m ≠ i → Apart u (v m) := fun m m1 m2 m3 k e1 e2 => by
     rcases hat with e | e
     · exact h.a i m hi m1 h4 m2 (Ne.symm m3) k (by rw [← e]; exact e1) e2
     · rw [e] at e1
       injection e1 with e1
       have := ((hm.o m m1 m2).lt k e2).2
       omega
   by_cases hji : j = i
   · subst hji
     rw [upd_eq, upd_ne (Ne.symm hjk)]
     exact hnew k k1 k2 (Ne.symm hjk)
   · by_cases hki : k = i
     · subst hki
       rw [upd_eq, upd_ne hji]
       exact fun m e1 e2 => hnew j j1 j2 hji m e2 e1
     · rw [upd_ne hji, upd_ne hki]
       exact h.a j k j1 k1 j2 k2 hjk
 · by_cases hji : j = i
   · subst hji
     rw [upd_eq]
     exact h.t j
   · rw [upd_ne hji]
     exact h.t j
 · exact ((h1.mono h.size).trans (below_grow hg (fun k hk => ((h.o i hi h4).lt k hk).1) (Nat.le_trans h.size h1.size))).setCell (p := ⟨mb, i, none⟩) h.b u
/-- the miss' place is written -/
theorem Md.miss (h : Md W B mb ms v s) (x : Int) : Md (W.setCell ⟨mb, 4, none⟩ (.int .i64 x)) B mb x v s ∧ Below B W (W.setCell ⟨mb, 4, none⟩ (.int .i64 x)) := by
 refine ⟨⟨by simpa using h.k.set_ 4 (.int .i64 x), fun j j1 j2 => own_far (h.o j j1 j2) (p := ⟨mb, 4, none⟩) (own_blk_ne (h.o j j1 j2) h.k (h.t j)) _, h.a, h.t, h.b⟩, (Below.refl B W).setCell (p := ⟨mb, 4, none⟩) h.b _⟩
end
/-- an append to a row of the call's own, told where it lies, as a step of a region -/
theorem step_append_at {P : Program} {ops : Array Oper} {o : Oper} {a : Act} {w : World} {K : Act → World → Prop} {Q : Exit → Act → World → Prop} {E : Prop} (hg : o.guard = none) (s x : Operand) (t : TypeId)
   (hop : o.op = .call { callee := .builtin .append, args := #[s, x], argTypes := #[t, t] })
   (base : Nat) (e : TypeId) (i : TypeInfo) (z : Value) (size bytes : Nat) (h1 : P.underlying t = some (.slice e)) (h2 : P.info? e = some i) (h3 : i.zero = some z)
   (h4 : i.size = size) (h5 : i.bytes = bytes) (h6 : z.cells.size = size) (h7 : 0 < size)
   (v : Value) (n : Nat) (xs : List Value) (hs : a.eval s = v) (hown : w.ownsRow base e size v n xs)
   (ad : Addr) (m c : Nat) (news : List Value) (hx : a.eval x = .slice (some ad) m c) (hn : news.length = m * size) (hc : ∀ j u, news[j]? = some u → w.cell? (ad.add j) = some u) (h1c : ∀ u ∈ news, u.oneCell' = true)
   (b1 : n + m ≤ maxLen) (b2 : (n + m) * bytes ≤ 140737488355328) (hb : base ≤ w.heap.size)
   (hK : ∀ v' w', w'.ownsRow base e size v' (n + m) (xs ++ news) → w.grownBy w' v.ownBlock → (v'.ownBlock = v.ownBlock ∨ v'.ownBlock = some w.heap.size) → K (a.put o.dst v') w') :
   if Region.wanted o (yielded ops a.tmps) = true then Oper.wp P o a w K Q else E := by
 have hw : Region.wanted o (yielded ops a.tmps) = true := by simp [Region.wanted, hg]
 rw [if_pos hw]
 obtain ⟨v', w', hrun, r1, r2, _, r4⟩ := run_append_own_at (P := P) w base t o.type e i z size bytes h1 h2 h3 h4 h5 h6 h7 v n xs hown ad m c news hn hc h1c b1 b2 hb
 unfold Oper.wp
 simp [execOp, hop, Go.resolve, invoke, builtin, hs, hx, hrun, Result.andThen]
 exact hK v' w' r1 r2 r4
/-- what an append to a row leaves -/
structure MdOut (W : World) (B mb : Nat) (ms : Int) (v : Nat → Value) (s : Nat → RwT) (i : Nat) (news : List Value) (u : Value) (w' : World) : Prop where
 md : Md (w'.setCell ⟨mb, i, none⟩ u) B mb ms (upd v i u) (upd s i ⟨(s i).t, (s i).sz, (s i).n + 1, (s i).xs ++ news⟩)
 bw : Below B W (w'.setCell ⟨mb, i, none⟩ u)
 ce : w'.cell? ⟨mb, i, none⟩ = some (v i)
 fz : w'.frozen? ⟨mb, i, none⟩ = false
 lt : mb < w'.heap.size
 ln : ∀ C y L, Lns W C y L → (s i).t ≠ 156 → Lns (w'.setCell ⟨mb, i, none⟩ u) C y L
theorem Md.out {W X w' : World} {B mb : Nat} {ms : Int} {v : Nat → Value} {s : Nat → RwT} {i : Nat} {news : List Value} {u : Value} (h : Md W B mb ms v s) (hi : i < 8) (h4 : i ≠ 4) (hX : Below W.heap.size W X)
   (hown : w'.ownsRow B (s i).t (s i).sz u ((s i).n + 1) ((s i).xs ++ news)) (hg : X.grownBy w' (v i).ownBlock) (hat : u.ownBlock = (v i).ownBlock ∨ u.ownBlock = some X.heap.size) : MdOut W B mb ms v s i news u w' := by
 obtain ⟨h1, h2⟩ := h.app i hi h4 hX hown hg hat
 have hm := h.grow hX
 have hvb : (v i).ownBlock ≠ some mb := own_blk_ne (hm.o i hi h4) hm.k (hm.t i)
 have hk : Blk w' mb 80 #[v 0, v 1, v 2, v 3, .int .i64 ms, v 5, v 6, v 7] := hm.k.grown hg (fun e => hvb e.symm)
 refine ⟨h1, h2, ?_, hk.frozen i, hk.lt, fun C y L hl hne => ?_⟩
 · rw [hk.cell]
   have hi8 : i = 0 ∨ i = 1 ∨ i = 2 ∨ i = 3 ∨ i = 5 ∨ i = 6 ∨ i = 7 := by omega
   rcases hi8 with rfl | rfl | rfl | rfl | rfl | rfl | rfl <;> rfl
 · have hl1 := hl.below hX
   have hd : ∀ k, y.ownBlock = some k → (v i).ownBlock ≠ some k := own_own_ne hl1 (hm.o i hi h4) (Ne.symm hne)
   have hl2 : Lns w' C y L := own_keep hl1 (fun k hk => hg.block k (hl1.lt k hk).2 (fun e => hd k hk e.symm))
   exact own_far hl2 (p := ⟨mb, i, none⟩) (own_blk_ne hl1 hm.k (by decide)) u
/-- an append of one element to a row of the program under way, as a step of a region -/
theorem step_md {W X : World} {B mb : Nat} {ms : Int} {v : Nat → Value} {s : Nat → RwT} {ops : Array Oper} {o : Oper} {a : Act} {K : Act → World → Prop} {Q : Exit → Act → World → Prop} {E : Prop} (i : Nat) (hi : i < 8) (h4 : i ≠ 4) (h : Md W B mb ms v s) (hX : Below W.heap.size W X) (hg : o.guard = none) (sx xx : Operand) (t : TypeId)
   (hop : o.op = .call { callee := .builtin .append, args := #[sx, xx], argTypes := #[t, t] })
   (i0 : TypeInfo) (z : Value) (bytes : Nat) (h1 : Try.prog.underlying t = some (.slice (s i).t)) (h2 : Try.prog.info? (s i).t = some i0) (h3 : i0.zero = some z)
   (h5 : i0.size = (s i).sz) (h6 : i0.bytes = bytes) (h7 : z.cells.size = (s i).sz) (h8 : 0 < (s i).sz) (hs : a.eval sx = v i)
   (g c : Nat) (t2 : TypeId) (cs : Array Value) (hk : Blk X g t2 cs) (hx : a.eval xx = .slice (some ⟨g, 0, none⟩) 1 c) (hn : cs.size = (s i).sz) (h1c : ∀ u ∈ cs.toList, u.oneCell' = true)
   (b1 : (s i).n + 1 ≤ maxLen) (b2 : ((s i).n + 1) * bytes ≤ 140737488355328)
   (hK : ∀ oa ca w', MdOut W B mb ms v s i cs.toList (.slice oa ((s i).n + 1) ca) w' → K (a.put o.dst (.slice oa ((s i).n + 1) ca)) w') :
   if Region.wanted o (yielded ops a.tmps) = true then Oper.wp Try.prog o a X K Q else E := by
 refine step_append_at hg sx xx t hop B (s i).t i0 z (s i).sz bytes h1 h2 h3 h5 h6 h7 h8 (v i) (s i).n (s i).xs hs ((h.grow hX).o i hi h4) ⟨g, 0, none⟩ 1 c cs.toList hx (by rw [Array.length_toList, hn, Nat.one_mul]) (fun j u hj => ?_) h1c b1 b2 (Nat.le_trans h.size hX.size) ?_
 · have hadd : (⟨g, 0, none⟩ : Addr).add j = ⟨g, j, none⟩ := by unfold Addr.add; split <;> simp_all
   rw [hadd, hk.cell, ← Array.getElem?_toList, hj]
 · intro v' w' r1 r2 r4
   obtain ⟨oa, ca, e⟩ := own_slice r1
   have h9 := h.out hi h4 hX r1 r2 r4
   rw [e] at h9 ⊢
   exact hK oa ca w' h9
/-- the same in a walk -/
theorem wp_md {W X : World} {B mb : Nat} {ms : Int} {v : Nat → Value} {s : Nat → RwT} {ops : Array Oper} {rest : List Oper} {o : Oper} {a : Act} {Q : Exit → Act → World → Prop} (i : Nat) (hi : i < 8) (h4 : i ≠ 4) (h : Md W B mb ms v s) (hX : Below W.heap.size W X) (hg : o.guard = none) (sx xx : Operand) (t : TypeId)
   (hop : o.op = .call { callee := .builtin .append, args := #[sx, xx], argTypes := #[t, t] })
   (i0 : TypeInfo) (z : Value) (bytes : Nat) (h1 : Try.prog.underlying t = some (.slice (s i).t)) (h2 : Try.prog.info? (s i).t = some i0) (h3 : i0.zero = some z)
   (h5 : i0.size = (s i).sz) (h6 : i0.bytes = bytes) (h7 : z.cells.size = (s i).sz) (h8 : 0 < (s i).sz) (hs : a.eval sx = v i)
   (g c : Nat) (t2 : TypeId) (cs : Array Value) (hk : Blk X g t2 cs) (hx : a.eval xx = .slice (some ⟨g, 0, none⟩) 1 c) (hn : cs.size = (s i).sz) (h1c : ∀ u ∈ cs.toList, u.oneCell' = true)
   (b1 : (s i).n + 1 ≤ maxLen) (b2 : ((s i).n + 1) * bytes ≤ 140737488355328)
   (hK : ∀ oa ca w', MdOut W B mb ms v s i cs.toList (.slice oa ((s i).n + 1) ca) w' → wpList Try.prog ops Q rest (a.put o.dst (.slice oa ((s i).n + 1) ca)) w') :
   wpList Try.prog ops Q (o :: rest) a X := by
 refine wpList_append_own_at X hg sx xx t hop B (s i).t i0 z (s i).sz bytes h1 h2 h3 h5 h6 h7 h8 (v i) (s i).n (s i).xs hs ((h.grow hX).o i hi h4) ⟨g, 0, none⟩ 1 c cs.toList hx (by rw [Array.length_toList, hn, Nat.one_mul]) (fun j u hj => ?_) h1c b1 b2 (Nat.le_trans h.size hX.size) ?_
 · have hadd : (⟨g, 0, none⟩ : Addr).add j = ⟨g, j, none⟩ := by unfold Addr.add; split <;> simp_all
   rw [hadd, hk.cell, ← Array.getElem?_toList, hj]
 · intro v' w' r1 r2 _ r4
   obtain ⟨oa, ca, e⟩ := own_slice r1
   have h9 := h.out hi h4 hX r1 r2 r4
   rw [e] at h9 ⊢
   exact hK oa ca w' h9
end Go.Proofs.Ytdpokdcendgfeaa
namespace Go.Proofs.Ytdpokdcendgfeaa
open Go.RowKit
/-- the rows of the program under way -/
def sOf (P : Pl) (m : Mk) : Nat → RwT
 | 0 => ⟨4, 1, P.gh.length, bools P.gh⟩
 | 1 => ⟨51, 3, P.vs.length, vrs P.vs⟩
 | 2 => ⟨3, 1, P.ts.length, ints P.ts⟩
 | 3 => ⟨3, 1, m.on.length, ints m.on⟩
 | 5 => ⟨56, 5, m.cd.length, ins m.cd⟩
 | 6 => ⟨3, 1, m.ev.length, ints m.ev⟩
 | 7 => ⟨3, 1, m.rw.length, ints m.rw⟩
 | _ => ⟨3, 1, 0, []⟩
section
variable {P : Pl} {m : Mk}
theorem sOf_on (x : Int) : upd (sOf P m) 3 ⟨(sOf P m 3).t, (sOf P m 3).sz, m.on.length + 1, ints m.on ++ [.int .i64 x]⟩ = sOf P { m with on := m.on ++ [x] } := by
 funext j
 by_cases h : j = 3
 · subst h
   rw [upd_eq]
   simp [sOf, ints]
 · rw [upd_ne h]
   match j, h with
   | 0, _ | 1, _ | 2, _ | 4, _ | 5, _ | 6, _ | 7, _ => rfl
   | 3, h => exact absurd rfl h
   | _ + 8, _ => rfl
theorem sOf_cd (x : In) : upd (sOf P m) 5 ⟨(sOf P m 5).t, (sOf P m 5).sz, m.cd.length + 1, ins m.cd ++ x.cells⟩ = sOf P { m with cd := m.cd ++ [x] } := by
 funext j
 by_cases h : j = 5
 · subst h
   rw [upd_eq]
   simp [sOf, ins]
 · rw [upd_ne h]
   match j, h with
   | 0, _ | 1, _ | 2, _ | 4, _ | 3, _ | 6, _ | 7, _ => rfl
   | 5, h => exact absurd rfl h
   | _ + 8, _ => rfl
theorem sOf_ev (x : Int) : upd (sOf P m) 6 ⟨(sOf P m 6).t, (sOf P m 6).sz, m.ev.length + 1, ints m.ev ++ [.int .i64 x]⟩ = sOf P { m with ev := m.ev ++ [x] } := by
 funext j
 by_cases h : j = 6
 · subst h
   rw [upd_eq]
   simp [sOf, ints]
 · rw [upd_ne h]
   match j, h with
   | 0, _ | 1, _ | 2, _ | 4, _ | 5, _ | 3, _ | 7, _ => rfl
   | 6, h => exact absurd rfl h
   | _ + 8, _ => rfl
theorem sOf_rw (x : Int) : upd (sOf P m) 7 ⟨(sOf P m 7).t, (sOf P m 7).sz, m.rw.length + 1, ints m.rw ++ [.int .i64 x]⟩ = sOf P { m with rw := m.rw ++ [x] } := by
 funext j
 by_cases h : j = 7
 · subst h
   rw [upd_eq]
   simp [sOf, ints]
 · rw [upd_ne h]
   match j, h with
   | 0, _ | 1, _ | 2, _ | 4, _ | 5, _ | 6, _ | 3, _ => rfl
   | 7, h => exact absurd rfl h
   | _ + 8, _ => rfl
end
/-- the first lines of an event's code behind what was there: so many of each row -/
def addJ (m : Mk) (n : Int) (L : List Ln) (a b c : Nat) : Mk := { m with cd := m.cd ++ ((layL m.cd.length L).map Prod.fst).take a, ev := m.ev ++ List.replicate b n, rw := m.rw ++ (L.map fun x => (x.row : Int)).take c }
def putL (c : Nat) (x : Ln) : In := if x.jp = true then { x.i with a := (c : Int) + x.i.a } else x.i
theorem layL_get : ∀ (L : List Ln) (c j : Nat) (x : Ln), L[j]? = some x → (layL c L)[j]? = some (putL (c + j) x, x.row)
 | y :: L, c, 0, x, h => by
   simp at h
   subst h
   rfl
 | y :: L, c, j + 1, x, h => by
   have := layL_get L (c + 1) j x (by simpa using h)
   simp only [layL, List.getElem?_cons_succ, this]
   rw [show c + 1 + j = c + (j + 1) by omega]
 | [], c, j, x, h => by simp at h
theorem addJ_cd (m : Mk) (n : Int) {L : List Ln} {a : Nat} {x : Ln} (b c : Nat) (h : L[a]? = some x) : { addJ m n L a b c with cd := (addJ m n L a b c).cd ++ [putL (m.cd.length + a) x] } = addJ m n L (a + 1) b c := by
 unfold addJ
 simp only [List.append_assoc, Mk.mk.injEq, true_and, and_true, List.append_cancel_left_eq]
 rw [List.take_add_one, List.getElem?_map, layL_get L _ _ _ h]
 rfl
theorem addJ_ev (m : Mk) (n : Int) (L : List Ln) (a b c : Nat) : { addJ m n L a b c with ev := (addJ m n L a b c).ev ++ [n] } = addJ m n L a (b + 1) c := by
 unfold addJ
 simp only [List.append_assoc, Mk.mk.injEq, true_and, and_true, List.append_cancel_left_eq]
 rw [← List.replicate_append_replicate (n := b) (m := 1)]
 rfl
theorem addJ_rw (m : Mk) (n : Int) {L : List Ln} {c : Nat} {x : Ln} (a b : Nat) (h : L[c]? = some x) : { addJ m n L a b c with rw := (addJ m n L a b c).rw ++ [(x.row : Int)] } = addJ m n L a b (c + 1) := by
 unfold addJ
 simp only [List.append_assoc, Mk.mk.injEq, true_and, and_true, List.append_cancel_left_eq]
 rw [List.take_add_one, List.getElem?_map, h]
 rfl
theorem addJ_lens (m : Mk) (n : Int) (L : List Ln) (a b c : Nat) (ha : a ≤ L.length) (hc : c ≤ L.length) : (addJ m n L a b c).cd.length = m.cd.length + a ∧ (addJ m n L a b c).ev.length = m.ev.length + b ∧ (addJ m n L a b c).rw.length = m.rw.length + c := by
 unfold addJ
 refine ⟨?_, ?_, ?_⟩
 · rw [List.length_append, List.length_take, List.length_map, layL_length, Nat.min_eq_left ha]
 · rw [List.length_append, List.length_replicate]
 · rw [List.length_append, List.length_take, List.length_map, Nat.min_eq_left hc]
theorem addL_none (m : Mk) (n : Int) : m.add n [] = (m, -1) := rfl
theorem addL_some (m : Mk) (n : Int) {P : Pl} {l : List Ac} (h0 : l ≠ []) (h : Wf P l (l.length + 2) 1 0 l.length) : m.add n l = (addJ m n (lnE l) (lnE l).length (lnE l).length (lnE l).length, (m.cd.length : Int)) := by
 obtain ⟨h1, h2, h3⟩ := ev_same h m.cd.length
 have he : l.isEmpty = false := by simpa using h0
 unfold Mk.add
 rw [he]
 simp only [Bool.false_eq_true, if_false, h1, h2, h3]
 unfold addJ
 rw [List.take_of_length_le (by rw [List.length_map, layL_length]; exact Nat.le_refl _), List.take_of_length_le (by rw [List.length_map]; exact Nat.le_refl _)]
theorem lnE_small {P : Pl} {l : List Ac} (h : Wf P l (l.length + 2) 1 0 l.length) {j : Nat} {x : Ln} (hx : (lnE l)[j]? = some x) (hj : x.jp = true) : 0 ≤ (j : Int) + x.i.a ∧ (j : Int) + x.i.a ≤ ((lnE l).length : Int) := by
 have h1 := ln_same _ _ _ _ h (by omega) 0
 have h2 : (evC l).map finP = layL 0 (lnE l) := by
   unfold evC lnE
   rw [List.map_append, layL_append, h1]
   rfl
 have h3 := layL_get (lnE l) 0 j x hx
 rw [← h2, List.getElem?_map] at h3
 cases hy : (evC l)[j]? with
 | none => rw [hy] at h3; cases h3
 | some y =>
   rw [hy] at h3
   simp only [Option.map_some, Option.some.injEq, finP, Prod.mk.injEq] at h3
   have h4 : x.jp = true ↔ S5 x.i.o := lnE_ok l x (List.mem_of_getElem? hx)
   have h5 : y.fin = { x.i with a := ((0 + j : Nat) : Int) + x.i.a } := by rw [h3.1]; unfold putL; rw [if_pos hj]
   have h6 := fin_small (List.mem_of_getElem? hy) (by rw [h5]; exact h4.1 hj)
   rw [h5, same_len h2] at h6
   simp only [Nat.zero_add] at h6
   exact h6
section
variable {W w' : World} {B mb : Nat} {ms : Int} {v : Nat → Value} {P : Pl} {m : Mk} {n : Int} {L : List Ln} {a b c : Nat} {u : Value} {x : Ln}
theorem md_cd {y : In} (h : MdOut W B mb ms v (sOf P (addJ m n L a b c)) 5 y.cells u w') (hx : L[a]? = some x) (hy : putL (m.cd.length + a) x = y) : Md (w'.setCell ⟨mb, 5, none⟩ u) B mb ms (upd v 5 u) (sOf P (addJ m n L (a + 1) b c)) := by
 have h1 := h.md
 have h2 := sOf_cd (P := P) (m := addJ m n L a b c) y
 rw [← hy, addJ_cd m n b c hx, hy] at h2
 rw [← h2]
 exact h1
theorem md_ev (h : MdOut W B mb ms v (sOf P (addJ m n L a b c)) 6 [.int .i64 n] u w') : Md (w'.setCell ⟨mb, 6, none⟩ u) B mb ms (upd v 6 u) (sOf P (addJ m n L a (b + 1) c)) := by
 have h1 := h.md
 have h2 := sOf_ev (P := P) (m := addJ m n L a b c) n
 rw [addJ_ev m n L a b c] at h2
 rw [← h2]
 exact h1
theorem md_rw (h : MdOut W B mb ms v (sOf P (addJ m n L a b c)) 7 [.int .i64 (x.row : Int)] u w') (hx : L[c]? = some x) : Md (w'.setCell ⟨mb, 7, none⟩ u) B mb ms (upd v 7 u) (sOf P (addJ m n L a b (c + 1))) := by
 have h1 := h.md
 have h2 := sOf_rw (P := P) (m := addJ m n L a b c) (x.row : Int)
 rw [addJ_rw m n a b hx] at h2
 rw [← h2]
 exact h1
end
theorem small_of {P : Pl} {l : List Ac} {f : Nat} {what : Int} (h : Wf P l f what 0 l.length) (hl : l.length ≤ 262144) : Small l := ⟨hl, fun x hx => by
 obtain ⟨i, hi⟩ := List.getElem?_of_mem hx
 obtain ⟨y, sp, E, hy, h0, h1, _⟩ := rowOk_all h i (List.getElem?_eq_some_iff.1 hi).1
 rw [hi] at hy
 injection hy with hy
 subst hy
 exact ⟨h0, by omega⟩⟩
end Go.Proofs.Ytdpokdcendgfeaa
namespace Go.Proofs.Ytdpokdcendgfeaa
open Go.RowKit
def AddTold (W : World) (B mb : Nat) (ms : Int) (P : Pl) (r : Mk × Int) (en : Ending) (w' : World) : Prop := ∃ v', en = .returned (.int .i64 r.2) ∧ Md w' B mb ms v' (sOf P r.1) ∧ Below B W w'
theorem slice_of {W : World} {B mb : Nat} {ms : Int} {v : Nat → Value} {s : Nat → RwT} (h : Md W B mb ms v s) (i : Nat) (hi : i < 8) (h4 : i ≠ 4) : ∃ oa c, v i = .slice oa (s i).n c := own_slice (h.o i hi h4)
/-- a line's cells -/
theorem line_cells {W : World} {g : Nat} {L : List Ln} (hc : ∀ j u, (lcs L)[j]? = some u → W.cell? ((⟨g, 0, none⟩ : Addr).add j) = some u) {j : Nat} {x : Ln} (h : L[j]? = some x) :
   W.cell? ⟨g, j * 7, none⟩ = some (.int .i64 x.i.o) ∧ W.cell? ⟨g, j * 7 + 1, none⟩ = some (.int .i64 x.i.a) ∧ W.cell? ⟨g, j * 7 + 2, none⟩ = some (.int .i64 x.i.b) ∧ W.cell? ⟨g, j * 7 + 3, none⟩ = some (.int .i64 x.i.c) ∧ W.cell? ⟨g, j * 7 + 4, none⟩ = some (.int .i64 x.i.d) ∧ W.cell? ⟨g, j * 7 + 5, none⟩ = some (.int .i64 (x.row : Int)) ∧ W.cell? ⟨g, j * 7 + 6, none⟩ = some (.bool x.jp) := by
 have hat : ∀ k u, k < 7 → x.cells[k]? = some u → W.cell? ⟨g, j * 7 + k, none⟩ = some u := fun k u hk hu => by
   have h1 : (lcs L)[j * 7 + k]? = some u := by
     rw [← hu]
     clear hu hc
     induction L generalizing j with
     | nil => simp at h
     | cons y L ih =>
       cases j with
       | zero =>
         simp at h
         subst h
         simp only [lcs, List.map_cons, List.flatten_cons, Nat.zero_mul, Nat.zero_add]
         rw [List.getElem?_append_left (by simp only [Ln.cells, List.length_cons, List.length_nil]; omega)]
       | succ j =>
         have ih := ih (j := j) (by simpa using h)
         simp only [lcs, List.map_cons, List.flatten_cons] at ih ⊢
         rw [List.getElem?_append_right (by simp only [Ln.cells, List.length_cons, List.length_nil]; omega), ← ih]
         congr 1
         simp only [Ln.cells, List.length_cons, List.length_nil]
         omega
   have h2 := hc _ _ h1
   have hadd : (⟨g, 0, none⟩ : Addr).add (j * 7 + k) = ⟨g, j * 7 + k, none⟩ := by unfold Addr.add; split <;> simp_all
   rw [hadd] at h2
   exact h2
 exact ⟨hat 0 _ (by omega) rfl, hat 1 _ (by omega) rfl, hat 2 _ (by omega) rfl, hat 3 _ (by omega) rfl, hat 4 _ (by omega) rfl, hat 5 _ (by omega) rfl, hat 6 _ (by omega) rfl⟩
set_option maxRecDepth 100000 in
theorem add_i {P : Pl} (hCA : ∀ l f, CodeAll P l f) (W : World) (B mb : Nat) (ms : Int) (v : Nat → Value) (m : Mk) (h : Md W B mb ms v (sOf P m)) (n : Int) (oa : Option Addr) (c : Nat) (l : List Ac) (hs : Src W oa l.length (acs l)) (hw : l ≠ [] → Wf P l (l.length + 2) 1 0 l.length) (hl : l.length ≤ 131072) (hcd : m.cd.length ≤ 4000000 ∧ m.ev.length ≤ 4000000 ∧ m.rw.length ≤ 4000000) :
   Calls Try.prog 72 #[.pointer (some ⟨mb, 0, none⟩), .int .i64 n, .slice oa l.length c] W (AddTold W B mb ms P (m.add n l)) := by
 by_cases h0 : l = []
 · subst h0
   have HM := hide h
   simp only [List.length_nil]
   rw [addL_none]
   clear h hs
   go_enter Try.func72, Try.ntmps72
   go_wp2_with fail
   go_ret
   exact ⟨_, rfl, HM.out, Below.refl _ _⟩
 have hwf := hw h0
 have hl0 : 0 < l.length := List.length_pos_iff.2 h0
 rw [addL_some m n h0 hwf]
 have hlen : (lnE l).length ≤ 524289 := by
   have h1 := ln_len hwf (by omega)
   unfold lnE
   rw [List.length_append]
   simp only [List.length_cons, List.length_nil]
   omega
 have hlb : ((l.length : Int) == 0) = false := by rw [beq_eq_false_iff_ne]; omega
 have hlI : ¬ (l.length : Int) = 0 := by omega
 obtain ⟨ad, rfl, hab, -⟩ := hs hl0
 obtain ⟨hcd1, hcd2, hcd3⟩ := hcd
 obtain ⟨i5, hi5, hz5, hs5, hb5⟩ := info_parts3 infR
 obtain ⟨i3, hi3, hz3, hs3, hb3⟩ := info_parts3 infI
 have HM0 := hide h
 have HS := hide hs
 have HSMALL := hide (small_of hwf (by omega))
 have HWF := hide hwf
 obtain ⟨⟨-, -, -, -, -, m5, -, -⟩, -⟩ := h.cells
 obtain ⟨o5, c5, e5⟩ := slice_of h 5 (by decide) (by decide)
 rw [e5] at m5
 have hmb := h.k.lt
 have HB1 := hide ((Below.refl W.heap.size W).alloc (Nat.le_refl _) (.cells #[.slice (some ad) l.length c] 152))
 have HK1 := hide (Blk.new W 152 #[.slice (some ad) l.length c])
 obtain ⟨W1, hW1⟩ : ∃ W1, W.alloc (.cells #[.slice (some ad) l.length c] 152) = W1 := ⟨_, rfl⟩
 have HW1 := hide hW1
 rw [hW1] at HB1 HK1
 have HC := hide (show Calls Try.prog 112 #[.pointer (some ⟨W.heap.size, 0, none⟩), .int .i64 0] W1 (LnsTold (lnC l (l.length + 2) 0) W1) from hCA l (l.length + 2) W1 W.heap.size ad c 1 0 l.length ⟨HK1.out, HS.out.below HB1.out, HSMALL.out⟩ hwf (by omega))
 obtain ⟨c0, hc0⟩ : ∃ c0, m.cd.length = c0 := ⟨_, rfl⟩
 have hsn : (sOf P m 5).n = c0 := hc0
 rw [hsn] at m5
 have HC0 := hide hc0
 rw [hc0] at hcd1 ⊢
 have HE0 := hide (show lnC l (l.length + 2) 0 ++ [oneL 0 0 0 0 0 0] = lnE l from rfl)
 obtain ⟨L0, hL0⟩ : ∃ L0, lnC l (l.length + 2) 0 = L0 := ⟨_, rfl⟩
 have HSM := hide (fun (j : Nat) (x : Ln) (hx : (lnE l)[j]? = some x) (hj : x.jp = true) => lnE_small hwf hx hj)
 obtain ⟨L, hL⟩ : ∃ L, lnE l = L := ⟨_, rfl⟩
 rw [hL0] at HC HE0
 rw [hL] at HE0 hlen HSM ⊢
 have hone := hide (show ∀ w, Calls Try.prog 113 #[.int .i64 0, .int .i64 0, .int .i64 0, .int .i64 0, .int .i64 0, .int .i64 0] w fun en w' => en = .returned (.agg #[.int .i64 0, .int .i64 0, .int .i64 0, .int .i64 0, .int .i64 0, .int .i64 0, .bool false]) ∧ Below w.heap.size w w' from fun w => one_v w 0 0 0 0 0 0)
 have hll0 : L0.length ≤ 524288 := by have h9 := congrArg List.length HE0.out; rw [List.length_append] at h9; simp only [List.length_cons, List.length_nil] at h9; omega
 have HLL0 := hide hll0
 clear h hs hw h0 hwf hc0 hsn hL0 hL hW1 e5 hab hll0
 go_enter Try.func72, Try.ntmps72
 go_upto_region 5 with fail
 rw [HW1.out]
 go_wp2_with fail
 go_at_call 112
 refine HC.out.mono ?_
 rintro en w3 ⟨o1, c1, rfl, hl3, hb3⟩
 have HWK := hide (Wk.start hl3 hb3)
 clear hl3 hb3
 go_wp2_with fail
 go_at_call 113
 refine (hone.out _).mono ?_
 rintro en w4 ⟨rfl, hb⟩
 replace HWK := hide (HWK.out.below hb)
 clear hb m5
 go_wp2_with (at_builtin
              with_reducible refine wk_lines HWK.out rfl (.tmp 25) (.tmp 27) rfl [oneL 0 0 0 0 0 0] #[.int .i64 0, .int .i64 0, .int .i64 0, .int .i64 0, .int .i64 0, .int .i64 0, .bool false] 1 rfl rfl rfl (Nat.le_trans (Nat.succ_le_succ HLL0.out) (by decide)) ?_
              rintro o9 c9 N w5 HN hk
              rw [HE0.out] at HN hk
              replace HWK := hide hk
              clear hk)
 have HLN := hide (show L.length = N by rw [HN.out])
 have hN0 : 0 < N := by rw [← HLN.out, ← HE0.out, List.length_append]; simp
 obtain ⟨g, hg⟩ : ∃ g, o9 = some ⟨g, 0, none⟩ := by
   rcases HWK.out.o.src with ⟨e1, e2⟩ | ⟨g, c', e1, _⟩
   · rw [e2] at HLN
     have := HLN.out
     simp at this
     omega
   · injection e1 with e1
     exact ⟨g, e1⟩
 subst hg
 obtain ⟨C, hC⟩ : ∃ C, W1.heap.size = C := ⟨_, rfl⟩
 have HL0 := hide (show Lns w5 C (.slice (some ⟨g, 0, none⟩) N c9) L by rw [← hC]; exact HWK.out.o)
 have HB5 := hide (HB1.out.trans (HWK.out.b.mono HB1.out.size))
 have hN9 : N ≤ 524289 := by rw [← HLN.out]; exact hlen
 have HMZ := hide (HM0.out.grow HB5.out)
 have HBW := hide (HB5.out.mono HM0.out.size)
 clear HWK HN hC hlen
 go_loopw [10] (fun t10 w => ∃ (j : Nat) (v : Nat → Value), t10 = .int .i64 (j : Int) ∧ j ≤ N ∧ Md w B mb ms v (sOf P (addJ m n L j j j)) ∧ Lns w C (.slice (some ⟨g, 0, none⟩) N c9) L ∧ Below B W w) (fun t10 _ => N - (intOf t10).toNat)
 case atStart => exact ⟨0, v, rfl, Nat.zero_le _, by have h9 : addJ m n L 0 0 0 = m := (by simp [addJ]); rw [h9]; exact HMZ.out, HL0.out, HBW.out⟩
 case round =>
   clear HMZ HL0 HBW HB5 HM0
   rename World => W0
   obtain ⟨j, v, rfl, hj, hmd, hln, hb⟩ := hrel
   rename World => W
   have HM := hide hmd
   have HL := hide hln
   have HB := hide hb
   have u1 := IntWalk.i64_in ((j : Int) + 1) (by omega)
   have hj0 : (0 : Int) ≤ (j : Int) := by omega
   by_cases hlt : j < N
   · have hltI : (j : Int) < (N : Int) := by omega
     obtain ⟨x, hx⟩ : ∃ x, L[j]? = some x := ⟨_, List.getElem?_eq_getElem (by rw [HLN.out]; exact hlt)⟩
     have HX := hide hx
     have hsrc : ∀ (w : World), Lns w C (.slice (some ⟨g, 0, none⟩) N c9) L → ∀ j u, (lcs L)[j]? = some u → w.cell? ((⟨g, 0, none⟩ : Addr).add j) = some u := fun w h9 => World.ownsRow.cells h9 (g := g) rfl
     have HSRC := hide hsrc
     obtain ⟨q0, q1, q2, q3, q4, q5, q6⟩ := line_cells (hsrc W hln) hx
     obtain ⟨⟨xo, xa, xb, xc, xd⟩, row, jp⟩ := x
     simp only at q0 q1 q2 q3 q4 q5 q6
     have hgl : g < W.heap.size := (hln.lt g rfl).2
     have hmbw : mb < W.heap.size := hmd.k.lt
     have hsm := fun hj => HSM.out j _ hx hj
     simp only [HLN.out] at hsm
     clear hx hsrc hmd hln hb
     cases jp with
     | true =>
       obtain ⟨sm1, sm2⟩ := hsm rfl
       have u5 := IntWalk.i64_in ((c0 : Int) + (j : Int)) (by omega)
       have u6 := IntWalk.i64_in ((c0 : Int) + (j : Int) + xa) (by omega)
       clear sm1 sm2
       go_upto_region 12 with fail
       obtain ⟨ya, hya⟩ : ∃ ya, (c0 : Int) + (j : Int) + xa = ya := ⟨_, rfl⟩
       have HYA := hide hya
       rw [hya]
       clear hya u5 u6 hsm
       have hby := (Below.refl W.heap.size W).alloc (Nat.le_refl _) (.cells #[.int .i64 xo, .int .i64 ya, .int .i64 xb, .int .i64 xc, .int .i64 xd] 56)
       have hky := Blk.new W 56 #[.int .i64 xo, .int .i64 ya, .int .i64 xb, .int .i64 xc, .int .i64 xd]
       obtain ⟨W2, hW2⟩ : ∃ W2, W.alloc (.cells #[.int .i64 xo, .int .i64 ya, .int .i64 xb, .int .i64 xc, .int .i64 xd] 56) = W2 := ⟨_, rfl⟩
       rw [hW2] at hby hky ⊢
       clear hW2
       clear q0 q1 q2 q3 q4 q5 q6
       have HBY := hide hby
       have HMY := hide (HM.out.grow hby)
       have HLY := hide (HL.out.below hby)
       obtain ⟨⟨-, -, -, -, -, m5, -, -⟩, mf⟩ := HMY.out.cells
       have y0 : W2.cell? ⟨W.heap.size, 0, none⟩ = some (.int .i64 xo) := by rw [hky.cell]; rfl
       have y1 : W2.cell? ⟨W.heap.size, 1, none⟩ = some (.int .i64 ya) := by rw [hky.cell]; rfl
       have y2 : W2.cell? ⟨W.heap.size, 2, none⟩ = some (.int .i64 xb) := by rw [hky.cell]; rfl
       have y3 : W2.cell? ⟨W.heap.size, 3, none⟩ = some (.int .i64 xc) := by rw [hky.cell]; rfl
       have y4 : W2.cell? ⟨W.heap.size, 4, none⟩ = some (.int .i64 xd) := by rw [hky.cell]; rfl
       have hmb2 := HMY.out.k.lt
       have hjL : j ≤ L.length := by have := HLN.out; omega
       have hLJ := addJ_lens m n L j j j hjL hjL
       rw [HC0.out] at hLJ
       have HN5 : Hid ((sOf P (addJ m n L j j j) 5).n = c0 + j) := hide hLJ.1
       have HPL := hide (show putL (c0 + j) ⟨⟨xo, xa, xb, xc, xd⟩, row, true⟩ = ⟨xo, ya, xb, xc, xd⟩ by unfold putL; rw [if_pos rfl, show ((c0 + j : Nat) : Int) = (c0 : Int) + (j : Int) by omega, HYA.out])
       clear mf hby hky hjL hLJ
       go_cut [60] from 52 to 63 (fun s60 wx => ∃ v', Md wx B mb ms v' (sOf P (addJ m n L (j + 1) j j)) ∧ Lns wx C (.slice (some ⟨g, 0, none⟩) N c9) L ∧ Below B W wx)
       case first =>
         go_region_law (refine step_md 5 (by decide) (by decide) HMY.out ((Below.refl _ W2).alloc (Nat.le_refl _) _).drew rfl (.tmp 57) (.tmp 59) 32 rfl i5 _ 40 Try.underlying32 hi5 hz5 hs5 hb5 rfl (by show 0 < 5; decide) (by simp [Act.eval, Act.put]) W2.heap.size 1 56 #[.int .i64 xo, .int .i64 ya, .int .i64 xb, .int .i64 xc, .int .i64 xd] (Blk.new W2 56 _).drew (by simp [Act.eval, Act.put]) rfl (by intro u hu; simp at hu; rcases hu with rfl | rfl | rfl | rfl | rfl <;> rfl) (by rw [HN5.out]; unfold maxLen; omega) (by rw [HN5.out]; omega) ?_
                        rintro oa' ca' w5 hout
                        have HOUT := hide hout
                        have z5 := hout.ce
                        have z6 := hout.fz
                        have z7 := hout.lt
                        clear hout)
         all_goals
           try simp only [List.getElem_toArray, List.getElem_cons_succ, List.getElem_cons_zero, Act.put, List.setIfInBounds_toArray, List.set_cons_zero, List.set_cons_succ]
           go_wp2_with fail
           go_meet
           case rel =>
             exact ⟨_, md_cd (y := ⟨xo, ya, xb, xc, xd⟩) HOUT.out HX.out (by rw [HC0.out]; exact HPL.out), HOUT.out.ln _ _ _ HLY.out (by simp [sOf]), (HBY.out.mono HM.out.size).trans HOUT.out.bw⟩
       case rest =>
         clear y0 y1 y2 y3 y4 m5 hmb2 HMY HLY HBY HPL HN5
         obtain ⟨v2, hm2, hl2, hb2⟩ := hcut
         have HM2 := hide hm2
         have HL2 := hide hl2
         have HB2 := hide hb2
         obtain ⟨⟨-, -, -, -, -, -, n6, -⟩, nf⟩ := hm2.cells
         have hmb2 := hm2.k.lt
         have hgl2 : g < wc.heap.size := (hl2.lt g rfl).2
         have hjL : j ≤ L.length ∧ j + 1 ≤ L.length := by have := HLN.out; omega
         have hLJ := addJ_lens m n L (j + 1) j j hjL.2 hjL.1
         have HN6 : Hid ((sOf P (addJ m n L (j + 1) j j) 6).n = m.ev.length + j) := hide hLJ.2.1
         have HN7 : Hid ((sOf P (addJ m n L (j + 1) (j + 1) j) 7).n = m.rw.length + j) := hide ((addJ_lens m n L (j + 1) (j + 1) j hjL.2 hjL.1).2.2)
         clear hm2 hl2 hb2 nf hjL hLJ
         go_upto_region 14 with (at_builtin
                                 refine wp_md 6 (by decide) (by decide) HM2.out ((Below.refl _ wc).alloc (Nat.le_refl _) _) rfl (.tmp 68) (.tmp 70) 24 rfl i3 _ 8 Try.underlying24 hi3 hz3 hs3 hb3 rfl (by show 0 < 1; decide) rfl wc.heap.size 1 3 #[.int .i64 n] (Blk.new wc 3 _) rfl rfl (by simp [Value.oneCell']) (by rw [HN6.out]; unfold maxLen; omega) (by rw [HN6.out]; omega) ?_
                                 rintro oa' ca' w5 hout
                                 have HOUT := hide hout
                                 have z5 := hout.ce
                                 have z6 := hout.fz
                                 have z7 := hout.lt
                                 clear hout)
         have hm3 := md_ev HOUT.out
         have hl3 := HOUT.out.ln _ _ _ HL2.out (by simp [sOf])
         have hb3' := HB2.out.trans HOUT.out.bw
         obtain ⟨W6, hW6⟩ : ∃ W6, w5.setCell ⟨mb, 6, none⟩ (.slice oa' ((sOf P (addJ m n L (j + 1) j j) 6).n + 1) ca') = W6 := ⟨_, rfl⟩
         rw [hW6] at hm3 hl3 hb3' ⊢
         have HM3 := hide hm3
         have HL3 := hide hl3
         have HB3 := hide hb3'
         obtain ⟨⟨-, -, -, -, -, -, -, k7⟩, -⟩ := hm3.cells
         obtain ⟨-, -, -, -, -, r5, -⟩ := line_cells (HSRC.out W6 hl3) HX.out
         have hmb3 := hm3.k.lt
         have hgl3 : g < W6.heap.size := (hl3.lt g rfl).2
         clear hW6 hm3 hl3 hb3' z5 z6 z7 n6 HOUT HN6
         simp only at r5
         go_region_law (refine step_md 7 (by decide) (by decide) HM3.out ((Below.refl _ W6).alloc (Nat.le_refl _) _).drew rfl (.tmp 78) (.tmp 84) 24 rfl i3 _ 8 Try.underlying24 hi3 hz3 hs3 hb3 rfl (by show 0 < 1; decide) (by simp [Act.eval, Act.put]) W6.heap.size 1 3 #[.int .i64 (row : Int)] (Blk.new W6 3 _).drew (by simp [Act.eval, Act.put]) rfl (by simp [Value.oneCell']) (by rw [HN7.out]; unfold maxLen; omega) (by rw [HN7.out]; omega) ?_
                        rintro oa' ca' w7 hout
                        have HOUT := hide hout
                        have z5 := hout.ce
                        have z6 := hout.fz
                        have z7 := hout.lt
                        clear hout)
         all_goals
           try simp only [List.getElem_toArray, List.getElem_cons_succ, List.getElem_cons_zero, Act.put, List.setIfInBounds_toArray, List.set_cons_zero, List.set_cons_succ]
           go_wp2_with fail
           go_roundw
           case rel => exact ⟨j + 1, _, by go_num, by omega, md_rw (x := ⟨⟨xo, xa, xb, xc, xd⟩, row, true⟩) HOUT.out HX.out, HOUT.out.ln _ _ _ HL3.out (by simp [sOf]), (HB.out.trans HB3.out).trans HOUT.out.bw⟩
           case measure =>
             simp only [intOf]
             omega
     | false =>
       go_upto_region 12 with fail
       clear hsm
       have hby := (Below.refl W.heap.size W).alloc (Nat.le_refl _) (.cells #[.int .i64 xo, .int .i64 xa, .int .i64 xb, .int .i64 xc, .int .i64 xd] 56)
       have hky := Blk.new W 56 #[.int .i64 xo, .int .i64 xa, .int .i64 xb, .int .i64 xc, .int .i64 xd]
       obtain ⟨W2, hW2⟩ : ∃ W2, W.alloc (.cells #[.int .i64 xo, .int .i64 xa, .int .i64 xb, .int .i64 xc, .int .i64 xd] 56) = W2 := ⟨_, rfl⟩
       rw [hW2] at hby hky ⊢
       clear hW2
       clear q0 q1 q2 q3 q4 q5 q6
       have HBY := hide hby
       have HMY := hide (HM.out.grow hby)
       have HLY := hide (HL.out.below hby)
       obtain ⟨⟨-, -, -, -, -, m5, -, -⟩, mf⟩ := HMY.out.cells
       have y0 : W2.cell? ⟨W.heap.size, 0, none⟩ = some (.int .i64 xo) := by rw [hky.cell]; rfl
       have y1 : W2.cell? ⟨W.heap.size, 1, none⟩ = some (.int .i64 xa) := by rw [hky.cell]; rfl
       have y2 : W2.cell? ⟨W.heap.size, 2, none⟩ = some (.int .i64 xb) := by rw [hky.cell]; rfl
       have y3 : W2.cell? ⟨W.heap.size, 3, none⟩ = some (.int .i64 xc) := by rw [hky.cell]; rfl
       have y4 : W2.cell? ⟨W.heap.size, 4, none⟩ = some (.int .i64 xd) := by rw [hky.cell]; rfl
       have hmb2 := HMY.out.k.lt
       have hjL : j ≤ L.length := by have := HLN.out; omega
       have hLJ := addJ_lens m n L j j j hjL hjL
       rw [HC0.out] at hLJ
       have HN5 : Hid ((sOf P (addJ m n L j j j) 5).n = c0 + j) := hide hLJ.1
       have HPL := hide (show putL (c0 + j) ⟨⟨xo, xa, xb, xc, xd⟩, row, false⟩ = ⟨xo, xa, xb, xc, xd⟩ by unfold putL; rfl)
       clear mf hby hky hjL hLJ
       go_cut [60] from 52 to 63 (fun s60 wx => ∃ v', Md wx B mb ms v' (sOf P (addJ m n L (j + 1) j j)) ∧ Lns wx C (.slice (some ⟨g, 0, none⟩) N c9) L ∧ Below B W wx)
       case first =>
         go_region_law (refine step_md 5 (by decide) (by decide) HMY.out ((Below.refl _ W2).alloc (Nat.le_refl _) _).drew rfl (.tmp 57) (.tmp 59) 32 rfl i5 _ 40 Try.underlying32 hi5 hz5 hs5 hb5 rfl (by show 0 < 5; decide) (by simp [Act.eval, Act.put]) W2.heap.size 1 56 #[.int .i64 xo, .int .i64 xa, .int .i64 xb, .int .i64 xc, .int .i64 xd] (Blk.new W2 56 _).drew (by simp [Act.eval, Act.put]) rfl (by intro u hu; simp at hu; rcases hu with rfl | rfl | rfl | rfl | rfl <;> rfl) (by rw [HN5.out]; unfold maxLen; omega) (by rw [HN5.out]; omega) ?_
                        rintro oa' ca' w5 hout
                        have HOUT := hide hout
                        have z5 := hout.ce
                        have z6 := hout.fz
                        have z7 := hout.lt
                        clear hout)
         all_goals
           try simp only [List.getElem_toArray, List.getElem_cons_succ, List.getElem_cons_zero, Act.put, List.setIfInBounds_toArray, List.set_cons_zero, List.set_cons_succ]
           go_wp2_with fail
           go_meet
           case rel =>
             exact ⟨_, md_cd (y := ⟨xo, xa, xb, xc, xd⟩) HOUT.out HX.out (by rw [HC0.out]; exact HPL.out), HOUT.out.ln _ _ _ HLY.out (by simp [sOf]), (HBY.out.mono HM.out.size).trans HOUT.out.bw⟩
       case rest =>
         clear y0 y1 y2 y3 y4 m5 hmb2 HMY HLY HBY HPL HN5
         obtain ⟨v2, hm2, hl2, hb2⟩ := hcut
         have HM2 := hide hm2
         have HL2 := hide hl2
         have HB2 := hide hb2
         obtain ⟨⟨-, -, -, -, -, -, n6, -⟩, nf⟩ := hm2.cells
         have hmb2 := hm2.k.lt
         have hgl2 : g < wc.heap.size := (hl2.lt g rfl).2
         have hjL : j ≤ L.length ∧ j + 1 ≤ L.length := by have := HLN.out; omega
         have hLJ := addJ_lens m n L (j + 1) j j hjL.2 hjL.1
         have HN6 : Hid ((sOf P (addJ m n L (j + 1) j j) 6).n = m.ev.length + j) := hide hLJ.2.1
         have HN7 : Hid ((sOf P (addJ m n L (j + 1) (j + 1) j) 7).n = m.rw.length + j) := hide ((addJ_lens m n L (j + 1) (j + 1) j hjL.2 hjL.1).2.2)
         clear hm2 hl2 hb2 nf hjL hLJ
         go_upto_region 14 with (at_builtin
                                 refine wp_md 6 (by decide) (by decide) HM2.out ((Below.refl _ wc).alloc (Nat.le_refl _) _) rfl (.tmp 68) (.tmp 70) 24 rfl i3 _ 8 Try.underlying24 hi3 hz3 hs3 hb3 rfl (by show 0 < 1; decide) rfl wc.heap.size 1 3 #[.int .i64 n] (Blk.new wc 3 _) rfl rfl (by simp [Value.oneCell']) (by rw [HN6.out]; unfold maxLen; omega) (by rw [HN6.out]; omega) ?_
                                 rintro oa' ca' w5 hout
                                 have HOUT := hide hout
                                 have z5 := hout.ce
                                 have z6 := hout.fz
                                 have z7 := hout.lt
                                 clear hout)
         have hm3 := md_ev HOUT.out
         have hl3 := HOUT.out.ln _ _ _ HL2.out (by simp [sOf])
         have hb3' := HB2.out.trans HOUT.out.bw
         obtain ⟨W6, hW6⟩ : ∃ W6, w5.setCell ⟨mb, 6, none⟩ (.slice oa' ((sOf P (addJ m n L (j + 1) j j) 6).n + 1) ca') = W6 := ⟨_, rfl⟩
         rw [hW6] at hm3 hl3 hb3' ⊢
         have HM3 := hide hm3
         have HL3 := hide hl3
         have HB3 := hide hb3'
         obtain ⟨⟨-, -, -, -, -, -, -, k7⟩, -⟩ := hm3.cells
         obtain ⟨-, -, -, -, -, r5, -⟩ := line_cells (HSRC.out W6 hl3) HX.out
         have hmb3 := hm3.k.lt
         have hgl3 : g < W6.heap.size := (hl3.lt g rfl).2
         clear hW6 hm3 hl3 hb3' z5 z6 z7 n6 HOUT HN6
         simp only at r5
         go_region_law (refine step_md 7 (by decide) (by decide) HM3.out ((Below.refl _ W6).alloc (Nat.le_refl _) _).drew rfl (.tmp 78) (.tmp 84) 24 rfl i3 _ 8 Try.underlying24 hi3 hz3 hs3 hb3 rfl (by show 0 < 1; decide) (by simp [Act.eval, Act.put]) W6.heap.size 1 3 #[.int .i64 (row : Int)] (Blk.new W6 3 _).drew (by simp [Act.eval, Act.put]) rfl (by simp [Value.oneCell']) (by rw [HN7.out]; unfold maxLen; omega) (by rw [HN7.out]; omega) ?_
                        rintro oa' ca' w7 hout
                        have HOUT := hide hout
                        have z5 := hout.ce
                        have z6 := hout.fz
                        have z7 := hout.lt
                        clear hout)
         all_goals
           try simp only [List.getElem_toArray, List.getElem_cons_succ, List.getElem_cons_zero, Act.put, List.setIfInBounds_toArray, List.set_cons_zero, List.set_cons_succ]
           go_wp2_with fail
           go_roundw
           case rel => exact ⟨j + 1, _, by go_num, by omega, md_rw (x := ⟨⟨xo, xa, xb, xc, xd⟩, row, false⟩) HOUT.out HX.out, HOUT.out.ln _ _ _ HL3.out (by simp [sOf]), (HB.out.trans HB3.out).trans HOUT.out.bw⟩
           case measure =>
             simp only [intOf]
             omega
   · have hltI : ¬ (j : Int) < (N : Int) := by omega
     obtain rfl : j = N := by omega
     clear hmd hln hb
     go_wp2_with fail
     go_ret
     refine ⟨v, rfl, ?_, HB.out⟩
     rw [HLN.out]
     exact HM.out
end Go.Proofs.Ytdpokdcendgfeaa
namespace Go.Proofs.Ytdpokdcendgfeaa
open Go.RowKit
/-- what an append of several leaves -/
structure MdOutK (W : World) (B mb : Nat) (ms : Int) (v : Nat → Value) (s : Nat → RwT) (i k : Nat) (news : List Value) (u : Value) (w' : World) : Prop where
 md : Md (w'.setCell ⟨mb, i, none⟩ u) B mb ms (upd v i u) (upd s i ⟨(s i).t, (s i).sz, (s i).n + k, (s i).xs ++ news⟩)
 bw : Below B W (w'.setCell ⟨mb, i, none⟩ u)
 ce : w'.cell? ⟨mb, i, none⟩ = some (v i)
 fz : w'.frozen? ⟨mb, i, none⟩ = false
 lt : mb < w'.heap.size
theorem Md.outk {W X w' : World} {B mb : Nat} {ms : Int} {v : Nat → Value} {s : Nat → RwT} {i k : Nat} {news : List Value} {u : Value} (h : Md W B mb ms v s) (hi : i < 8) (h4 : i ≠ 4) (hX : Below W.heap.size W X)
   (hown : w'.ownsRow B (s i).t (s i).sz u ((s i).n + k) ((s i).xs ++ news)) (hg : X.grownBy w' (v i).ownBlock) (hat : u.ownBlock = (v i).ownBlock ∨ u.ownBlock = some X.heap.size) : MdOutK W B mb ms v s i k news u w' := by
 obtain ⟨h1, h2⟩ := h.app i hi h4 hX hown hg hat
 have hm := h.grow hX
 have hvb : (v i).ownBlock ≠ some mb := own_blk_ne (hm.o i hi h4) hm.k (hm.t i)
 have hk : Blk w' mb 80 #[v 0, v 1, v 2, v 3, .int .i64 ms, v 5, v 6, v 7] := hm.k.grown hg (fun e => hvb e.symm)
 refine ⟨h1, h2, ?_, hk.frozen i, hk.lt⟩
 rw [hk.cell]
 have hi8 : i = 0 ∨ i = 1 ∨ i = 2 ∨ i = 3 ∨ i = 5 ∨ i = 6 ∨ i = 7 := by omega
 rcases hi8 with rfl | rfl | rfl | rfl | rfl | rfl | rfl <;> rfl
theorem run_append_none_c {P : Program} {w : World} (base : Nat) (t ty e : TypeId) (i : TypeInfo) (size : Nat) (ht : P.underlying t = some (.slice e)) (hi : P.info? e = some i)
   (v : Value) (n c : Nat) (xs : List Value) (hown : w.ownsRow base e size v n xs) : (Builtin.append_ #[t, t] ty #[v, .slice none 0 c]).run P w = .ok v w := by
 rcases hown.2 with ⟨rfl, rfl⟩ | ⟨g, cap, cur, rfl, _, _, hnc, _⟩
 · simp [Builtin.append_, run_underlying ht, sizeOf, typeInfo, hi, Builtin.lenOf, Builtin.firstCells]
 · simp [Builtin.append_, run_underlying ht, sizeOf, typeInfo, hi, Builtin.lenOf, Builtin.firstCells, hnc, storeCells]
/-- an append of a source's elements to a row of the program under way, as a step of a region -/
theorem step_mdk {W X : World} {B mb : Nat} {ms : Int} {v : Nat → Value} {s : Nat → RwT} {ops : Array Oper} {o : Oper} {a : Act} {K : Act → World → Prop} {Q : Exit → Act → World → Prop} {E : Prop} (i : Nat) (hi : i < 8) (h4 : i ≠ 4) (h : Md W B mb ms v s) (hX : Below W.heap.size W X) (hg : o.guard = none) (sx xx : Operand) (t : TypeId)
   (hop : o.op = .call { callee := .builtin .append, args := #[sx, xx], argTypes := #[t, t] })
   (i0 : TypeInfo) (z : Value) (bytes : Nat) (h1 : Try.prog.underlying t = some (.slice (s i).t)) (h2 : Try.prog.info? (s i).t = some i0) (h3 : i0.zero = some z)
   (h5 : i0.size = (s i).sz) (h6 : i0.bytes = bytes) (h7 : z.cells.size = (s i).sz) (h8 : 0 < (s i).sz) (hs : a.eval sx = v i)
   (oa : Option Addr) (k c : Nat) (news : List Value) (hsrc : Src X oa k news) (hx : a.eval xx = .slice oa k c) (hn : news.length = k * (s i).sz) (h1c : ∀ u ∈ news, u.oneCell' = true)
   (b1 : (s i).n + k ≤ maxLen) (b2 : ((s i).n + k) * bytes ≤ 140737488355328)
   (hK : ∀ ob cb w', MdOutK W B mb ms v s i k news (.slice ob ((s i).n + k) cb) w' → K (a.put o.dst (.slice ob ((s i).n + k) cb)) w') :
   if Region.wanted o (yielded ops a.tmps) = true then Oper.wp Try.prog o a X K Q else E := by
 cases oa with
 | some ad =>
   have hc : ∀ j u, news[j]? = some u → X.cell? (ad.add j) = some u := fun j u hj => by
     by_cases hk : 0 < k
     · obtain ⟨ad', e, _, h9⟩ := hsrc hk
       have e2 := Option.some.inj e
       rw [← e2] at h9
       exact h9 j u hj
     · have : news = [] := List.length_eq_zero_iff.1 (by rw [hn, Nat.eq_zero_of_not_pos hk, Nat.zero_mul])
       rw [this] at hj
       simp at hj
   refine step_append_at hg sx xx t hop B (s i).t i0 z (s i).sz bytes h1 h2 h3 h5 h6 h7 h8 (v i) (s i).n (s i).xs hs ((h.grow hX).o i hi h4) ad k c news hx hn hc h1c b1 b2 (Nat.le_trans h.size hX.size) ?_
   intro v' w' r1 r2 r4
   obtain ⟨ob, cb, e⟩ := own_slice r1
   have h9 := h.outk hi h4 hX r1 r2 r4
   rw [e] at h9 ⊢
   exact hK ob cb w' h9
 | none =>
   have hk : k = 0 := by
     by_cases hk : 0 < k
     · obtain ⟨ad', e, _⟩ := hsrc hk
       cases e
     · exact Nat.eq_zero_of_not_pos hk
   subst hk
   have hnil : news = [] := List.length_eq_zero_iff.1 (by rw [hn, Nat.zero_mul])
   subst hnil
   have hw : Region.wanted o (yielded ops a.tmps) = true := by simp [Region.wanted, hg]
   rw [if_pos hw]
   have hown := (h.grow hX).o i hi h4
   have hrun := run_append_none_c (P := Try.prog) (w := X) B t o.type (s i).t i0 (s i).sz h1 h2 (v i) (s i).n c (s i).xs hown
   unfold Oper.wp
   simp [execOp, hop, Go.resolve, invoke, builtin, hs, hx, hrun, Result.andThen]
   obtain ⟨ob, cb, e⟩ := own_slice hown
   have h9 := h.outk (k := 0) (news := []) (u := v i) (w' := X) hi h4 hX (by rw [List.append_nil]; exact hown) ⟨rfl, rfl, rfl, Nat.le_refl _, fun _ _ _ => rfl⟩ (.inl rfl)
   rw [e] at h9 ⊢
   exact hK ob cb X h9
section
variable {P : Pl} {m : Mk}
theorem sOf_g (g : List Bool) : upd (sOf ⟨[], P.vs, P.ts, P.on, P.ms⟩ m) 0 ⟨(sOf ⟨[], P.vs, P.ts, P.on, P.ms⟩ m 0).t, (sOf ⟨[], P.vs, P.ts, P.on, P.ms⟩ m 0).sz, 0 + g.length, [] ++ bools g⟩ = sOf ⟨g, P.vs, P.ts, P.on, P.ms⟩ m := by
 funext j
 by_cases h : j = 0
 · subst h
   rw [upd_eq]
   simp [sOf]
 · rw [upd_ne h]
   match j, h with
   | 1, _ | 2, _ | 3, _ | 4, _ | 5, _ | 6, _ | 7, _ => rfl
   | 0, h => exact absurd rfl h
   | _ + 8, _ => rfl
theorem sOf_v (g : List Vr) : upd (sOf ⟨P.gh, [], P.ts, P.on, P.ms⟩ m) 1 ⟨(sOf ⟨P.gh, [], P.ts, P.on, P.ms⟩ m 1).t, (sOf ⟨P.gh, [], P.ts, P.on, P.ms⟩ m 1).sz, 0 + g.length, [] ++ vrs g⟩ = sOf ⟨P.gh, g, P.ts, P.on, P.ms⟩ m := by
 funext j
 by_cases h : j = 1
 · subst h
   rw [upd_eq]
   simp [sOf]
 · rw [upd_ne h]
   match j, h with
   | 0, _ | 2, _ | 3, _ | 4, _ | 5, _ | 6, _ | 7, _ => rfl
   | 1, h => exact absurd rfl h
   | _ + 8, _ => rfl
theorem sOf_t (g : List Int) : upd (sOf ⟨P.gh, P.vs, [], P.on, P.ms⟩ m) 2 ⟨(sOf ⟨P.gh, P.vs, [], P.on, P.ms⟩ m 2).t, (sOf ⟨P.gh, P.vs, [], P.on, P.ms⟩ m 2).sz, 0 + g.length, [] ++ ints g⟩ = sOf ⟨P.gh, P.vs, g, P.on, P.ms⟩ m := by
 funext j
 by_cases h : j = 2
 · subst h
   rw [upd_eq]
   simp [sOf]
 · rw [upd_ne h]
   match j, h with
   | 0, _ | 1, _ | 3, _ | 4, _ | 5, _ | 6, _ | 7, _ => rfl
   | 2, h => exact absurd rfl h
   | _ + 8, _ => rfl
end
/-- nothing yet -/
theorem md_new (w : World) (on : List (List Ac)) (ms : List Ac) : Md (w.alloc (.cells #[.slice none 0 0, .slice none 0 0, .slice none 0 0, .slice none 0 0, .int .i64 0, .slice none 0 0, .slice none 0 0, .slice none 0 0] 80)) w.heap.size w.heap.size 0 (fun _ => .slice none 0 0) (sOf ⟨[], [], [], on, ms⟩ ⟨[], [], [], []⟩) := by
 refine ⟨Blk.new w _ _, fun i h1 h2 => ?_, fun i j _ _ _ _ _ k h => by simp [Value.ownBlock] at h, fun i => ?_, Nat.le_refl _⟩
 · have hi8 : i = 0 ∨ i = 1 ∨ i = 2 ∨ i = 3 ∨ i = 5 ∨ i = 6 ∨ i = 7 := by omega
   rcases hi8 with rfl | rfl | rfl | rfl | rfl | rfl | rfl <;> exact World.ownsRow_nil _ _ _ _
 · match i with
   | 0 | 1 | 2 | 3 | 4 | 5 | 6 | 7 => simp [sOf]
   | _ + 8 => simp [sOf]
end Go.Proofs.Ytdpokdcendgfeaa
