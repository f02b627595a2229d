/- The walks of slices.Clip, with (high). Conditions: the bounds that are named. -/
import Derived.Test.YtjflllfkgbhemaaV10
import Derived.ArgAppend
import Derived.Deep.DeepMust
import Derived.RangeFuncBox
namespace Go.Proofs.Ytjflllfkgbhemaa
open Go.RowKit
/-- a slice of numbers, as a standing holds it -/
structure Mv (w : World) (oa : Option Addr) (ca : Nat) (l : List Int) : Prop where
  le : l.length ≤ ca
  top : ca ≤ maxLen
  none_ : oa = none → ca = 0
  some_ : ∀ a, oa = some a → ∃ g, a = ⟨g, 0, none⟩ ∧ g < w.heap.size
  at_ : ∀ i x, l[i]? = some x → At w oa i (.int .i64 x)
theorem Mv.below {w w' : World} {oa : Option Addr} {ca : Nat} {l : List Int} (h : Mv w oa ca l) (hb : Below w.heap.size w w') : Mv w' oa ca l :=
  ⟨h.le, h.top, h.none_, fun a ha => by obtain ⟨g, e, hg⟩ := h.some_ a ha; exact ⟨g, e, Nat.lt_of_lt_of_le hg hb.size⟩, fun i x hx => (h.at_ i x hx).below hb⟩
/-- .. behind which lies a row of numbers and nothing else -/
structure Mt (w : World) (oa : Option Addr) (ca : Nat) (l : List Int) : Prop extends Mv w oa ca l where
  ty3 : ∀ a, oa = some a → ∃ cs, Blk w a.block 3 cs
theorem Mt.below {w w' : World} {oa : Option Addr} {ca : Nat} {l : List Int} (h : Mt w oa ca l) (hb : Below w.heap.size w w') : Mt w' oa ca l :=
  ⟨h.toMv.below hb, fun a ha => by obtain ⟨cs, hc⟩ := h.ty3 a ha; exact ⟨cs, hc.below hb hc.lt⟩⟩
set_option maxRecDepth 100000 in
theorem clip_i (w : World) (oa : Option Addr) (ca : Nat) (l : List Int) (h : Mv w oa ca l) : Calls Try.prog 91 #[.slice oa l.length ca] w fun en w' => en = .returned (.slice oa l.length l.length) ∧ w' = w := by
  have h1 := h.le
  have h2 := h.top
  unfold maxLen at h2
  cases oa with
  | none =>
    have h3 := h.none_ rfl
    subst h3
    have h4 : l.length = 0 := by omega
    rw [h4]
    clear h h1 h2
    go_enter Try.func91, Try.ntmps91
    go_wp2
    go_ret
    exact ⟨rfl, rfl⟩
  | some a =>
    obtain ⟨g, rfl, _⟩ := h.some_ a rfl
    clear h
    go_enter Try.func91, Try.ntmps91
    go_wp2
    go_ret
    exact ⟨rfl, rfl⟩
theorem heap_set2 (w : World) (b o : Nat) (u : Value) (k : Nat) (h : k ≠ b) : (w.setCell ⟨b, o, none⟩ u).heap[k]? = w.heap[k]? := Below.heap_setCell w ⟨b, o, none⟩ u k h
theorem below_grown {B : Nat} {A C : World} (h : A.grownBy C none) (_hB : B ≤ A.heap.size) : Below B A C := ⟨h.os, h.tape, h.output, h.size, fun k hk => h.block k (Nat.lt_of_lt_of_le hk _hB) (by simp)⟩
theorem own_keep {w w' : World} {base : Nat} {e : TypeId} {size n : Nat} {v : Value} {xs : List Value} (h : w.ownsRow base e size v n xs) (hk : ∀ g, v.ownBlock = some g → w'.heap[g]? = w.heap[g]?) : w'.ownsRow base e size v n xs := by
  refine ⟨h.1, ?_⟩
  rcases h.2 with hn | ⟨g, cap, cur, rfl, hb, hgg, rest⟩
  · exact .inl hn
  · exact .inr ⟨g, cap, cur, rfl, hb, (hk g rfl).trans hgg, rest⟩
theorem info3 : (Try.prog.info? 3).map (fun i => (i.zero, i.size, i.bytes)) = some (some (.int .i64 0), 1, 8) := by kernel_rfl
set_option linter.unusedVariables false in
set_option maxRecDepth 100000 in
set_option maxHeartbeats 8000000 in
theorem with_high (w : World) (s : St) (t : Int) (oa : Option Addr) (ca k : Nat) (hk : s.ls.length = k + 8) (hm : Mv w oa ca (s.ls.drop 8)) (hl : k ≤ 4194304) :
    Calls Try.prog 72 #[.agg (s.cells (.slice oa k ca)), .int .i64 t] w fun en w' => ∃ g' ca', en = .returned (.agg (({ s with ls := s.ls ++ [t] } : St).cells (.slice (some ⟨g', 0, none⟩) (k + 1) ca'))) ∧ Mt w' (some ⟨g', 0, none⟩) ca' ((s.ls ++ [t]).drop 8) ∧ Below w.heap.size w w' := by
  have hres : Try.f72.results = #[.cell 4 74] := by kernel_rfl
  obtain ⟨i0, hi, hz0, hz1, hz2⟩ := info_parts info3
  have hdl : (s.ls.drop 8).length = k := by simp [hk]
  have hda : (s.ls ++ [t]).drop 8 = s.ls.drop 8 ++ [t] := by rw [List.drop_append_of_le_length (by omega)]
  have hclip := fun W (hb : Below w.heap.size w W) => clip_i W oa ca _ (hm.below hb)
  rw [hdl] at hclip
  have hlow : Below w.heap.size w ((w.alloc (.cells (s.cells (.slice oa k ca)) 74)).alloc (.cells #[.bool false, .string ⟨#[]⟩, .int .i64 0, .int .i64 0, .int .i64 0, .int .i64 0, .int .i64 0, .int .i64 0, .int .i64 0, .int .i64 0, .int .i64 0, .int .i64 0, .slice none 0 0] 74)) := ((Below.refl _ w).alloc (Nat.le_refl _) _).alloc (by simp) _
  have HCL := hide (hclip _ hlow)
  have HM := hide hm
  have HDA := hide hda
  have HDL := hide hdl
  have HLOW := hide hlow
  obtain ⟨there, ty, ls, hand⟩ := s
  simp only [St.cells] at *
  rw [List.length_append, List.length_singleton, hk, show ((k + 8 + 1 : Nat) : Int) = (k : Int) + 8 + 1 from by omega, show ((k + 8 : Nat) : Int) = (k : Int) + 8 from by omega]
  rw [hk, show ((k + 8 : Nat) : Int) = (k : Int) + 8 from by omega] at HCL HLOW
  rw [lv_snoc (ls := ls) (i := 0) (by omega), lv_snoc (ls := ls) (i := 1) (by omega), lv_snoc (ls := ls) (i := 2) (by omega), lv_snoc (ls := ls) (i := 3) (by omega), lv_snoc (ls := ls) (i := 4) (by omega), lv_snoc (ls := ls) (i := 5) (by omega), lv_snoc (ls := ls) (i := 6) (by omega), lv_snoc (ls := ls) (i := 7) (by omega)]
  have hlow3 : Below w.heap.size w (((w.alloc (.cells #[.bool there, .string ty, .int .i64 (lv ls 0), .int .i64 (lv ls 1), .int .i64 (lv ls 2), .int .i64 (lv ls 3), .int .i64 (lv ls 4), .int .i64 (lv ls 5), .int .i64 (lv ls 6), .int .i64 (lv ls 7), .int .i64 ((k : Int) + 8), .int .i64 hand, .slice oa k ca] 74)).alloc (.cells #[.bool false, .string ⟨#[]⟩, .int .i64 0, .int .i64 0, .int .i64 0, .int .i64 0, .int .i64 0, .int .i64 0, .int .i64 0, .int .i64 0, .int .i64 0, .int .i64 0, .slice none 0 0] 74)).alloc (.cells #[.int .i64 t] 3)) := HLOW.out.alloc (by simp; omega) _
  have bA : Blk (((w.alloc (.cells #[.bool there, .string ty, .int .i64 (lv ls 0), .int .i64 (lv ls 1), .int .i64 (lv ls 2), .int .i64 (lv ls 3), .int .i64 (lv ls 4), .int .i64 (lv ls 5), .int .i64 (lv ls 6), .int .i64 (lv ls 7), .int .i64 ((k : Int) + 8), .int .i64 hand, .slice oa k ca] 74)).alloc (.cells #[.bool false, .string ⟨#[]⟩, .int .i64 0, .int .i64 0, .int .i64 0, .int .i64 0, .int .i64 0, .int .i64 0, .int .i64 0, .int .i64 0, .int .i64 0, .int .i64 0, .slice none 0 0] 74)).alloc (.cells #[.int .i64 t] 3)) w.heap.size 74 #[.bool there, .string ty, .int .i64 (lv ls 0), .int .i64 (lv ls 1), .int .i64 (lv ls 2), .int .i64 (lv ls 3), .int .i64 (lv ls 4), .int .i64 (lv ls 5), .int .i64 (lv ls 6), .int .i64 (lv ls 7), .int .i64 ((k : Int) + 8), .int .i64 hand, .slice oa k ca] := ((Blk.new w 74 _).alloc _).alloc _
  have bB : Blk (((w.alloc (.cells #[.bool there, .string ty, .int .i64 (lv ls 0), .int .i64 (lv ls 1), .int .i64 (lv ls 2), .int .i64 (lv ls 3), .int .i64 (lv ls 4), .int .i64 (lv ls 5), .int .i64 (lv ls 6), .int .i64 (lv ls 7), .int .i64 ((k : Int) + 8), .int .i64 hand, .slice oa k ca] 74)).alloc (.cells #[.bool false, .string ⟨#[]⟩, .int .i64 0, .int .i64 0, .int .i64 0, .int .i64 0, .int .i64 0, .int .i64 0, .int .i64 0, .int .i64 0, .int .i64 0, .int .i64 0, .slice none 0 0] 74)).alloc (.cells #[.int .i64 t] 3)) (w.heap.size + 1) 74 #[.bool false, .string ⟨#[]⟩, .int .i64 0, .int .i64 0, .int .i64 0, .int .i64 0, .int .i64 0, .int .i64 0, .int .i64 0, .int .i64 0, .int .i64 0, .int .i64 0, .slice none 0 0] := by
    have := (Blk.new (w.alloc (.cells #[.bool there, .string ty, .int .i64 (lv ls 0), .int .i64 (lv ls 1), .int .i64 (lv ls 2), .int .i64 (lv ls 3), .int .i64 (lv ls 4), .int .i64 (lv ls 5), .int .i64 (lv ls 6), .int .i64 (lv ls 7), .int .i64 ((k : Int) + 8), .int .i64 hand, .slice oa k ca] 74)) 74 #[.bool false, .string ⟨#[]⟩, .int .i64 0, .int .i64 0, .int .i64 0, .int .i64 0, .int .i64 0, .int .i64 0, .int .i64 0, .int .i64 0, .int .i64 0, .int .i64 0, .slice none 0 0]).alloc (.cells #[.int .i64 t] 3)
    simpa using this
  have bT : Blk (((w.alloc (.cells #[.bool there, .string ty, .int .i64 (lv ls 0), .int .i64 (lv ls 1), .int .i64 (lv ls 2), .int .i64 (lv ls 3), .int .i64 (lv ls 4), .int .i64 (lv ls 5), .int .i64 (lv ls 6), .int .i64 (lv ls 7), .int .i64 ((k : Int) + 8), .int .i64 hand, .slice oa k ca] 74)).alloc (.cells #[.bool false, .string ⟨#[]⟩, .int .i64 0, .int .i64 0, .int .i64 0, .int .i64 0, .int .i64 0, .int .i64 0, .int .i64 0, .int .i64 0, .int .i64 0, .int .i64 0, .slice none 0 0] 74)).alloc (.cells #[.int .i64 t] 3)) (w.heap.size + 1 + 1) 3 #[.int .i64 t] := by
    have := Blk.new ((w.alloc (.cells #[.bool there, .string ty, .int .i64 (lv ls 0), .int .i64 (lv ls 1), .int .i64 (lv ls 2), .int .i64 (lv ls 3), .int .i64 (lv ls 4), .int .i64 (lv ls 5), .int .i64 (lv ls 6), .int .i64 (lv ls 7), .int .i64 ((k : Int) + 8), .int .i64 hand, .slice oa k ca] 74)).alloc (.cells #[.bool false, .string ⟨#[]⟩, .int .i64 0, .int .i64 0, .int .i64 0, .int .i64 0, .int .i64 0, .int .i64 0, .int .i64 0, .int .i64 0, .int .i64 0, .int .i64 0, .slice none 0 0] 74)) 3 #[.int .i64 t]
    simpa using this
  have hcw : ∀ (j : Nat) (u : Value), [Value.int .i64 t][j]? = some u → (((w.alloc (.cells #[.bool there, .string ty, .int .i64 (lv ls 0), .int .i64 (lv ls 1), .int .i64 (lv ls 2), .int .i64 (lv ls 3), .int .i64 (lv ls 4), .int .i64 (lv ls 5), .int .i64 (lv ls 6), .int .i64 (lv ls 7), .int .i64 ((k : Int) + 8), .int .i64 hand, .slice oa k ca] 74)).alloc (.cells #[.bool false, .string ⟨#[]⟩, .int .i64 0, .int .i64 0, .int .i64 0, .int .i64 0, .int .i64 0, .int .i64 0, .int .i64 0, .int .i64 0, .int .i64 0, .int .i64 0, .slice none 0 0] 74)).alloc (.cells #[.int .i64 t] 3)).cell? (Addr.add ⟨w.heap.size + 1 + 1, 0, none⟩ j) = some u := by
    intro j u hj
    have hadd : (⟨w.heap.size + 1 + 1, 0, none⟩ : Addr).add j = ⟨w.heap.size + 1 + 1, j, none⟩ := by unfold Addr.add; split <;> simp_all
    rw [hadd, bT.cell]
    simpa using hj
  have hnn : oa = none → k = 0 ∧ k = 0 := fun e => by have := HM.out.none_ e; have := HM.out.le; have := HDL.out; omega
  have hlo : (ints (ls.drop 8)).length = k * 1 := by simp only [ints, List.length_map]; have := HDL.out; omega
  have hho : ∀ b, oa = some b → ∀ (j : Nat) (u : Value), (ints (ls.drop 8))[j]? = some u → (((w.alloc (.cells #[.bool there, .string ty, .int .i64 (lv ls 0), .int .i64 (lv ls 1), .int .i64 (lv ls 2), .int .i64 (lv ls 3), .int .i64 (lv ls 4), .int .i64 (lv ls 5), .int .i64 (lv ls 6), .int .i64 (lv ls 7), .int .i64 ((k : Int) + 8), .int .i64 hand, .slice oa k ca] 74)).alloc (.cells #[.bool false, .string ⟨#[]⟩, .int .i64 0, .int .i64 0, .int .i64 0, .int .i64 0, .int .i64 0, .int .i64 0, .int .i64 0, .int .i64 0, .int .i64 0, .int .i64 0, .slice none 0 0] 74)).alloc (.cells #[.int .i64 t] 3)).cell? (b.add j) = some u := by
    intro b hb j u hj
    obtain ⟨g, rfl, hg⟩ := HM.out.some_ b hb
    simp only [ints, List.getElem?_map] at hj
    cases hx : (ls.drop 8)[j]? with
    | none => rw [hx] at hj; cases hj
    | some x =>
      rw [hx] at hj
      simp at hj
      subst hj
      obtain ⟨g', e', _, hc⟩ := HM.out.at_ j x hx
      rw [hb] at e'
      have hadd : (⟨g, 0, none⟩ : Addr).add j = ⟨g, j, none⟩ := by unfold Addr.add; split <;> simp_all
      rw [hadd]
      obtain rfl : g = g' := by injection e' with e; injection e
      exact (hlow3.cell (by exact hg)).trans hc
  have HCW := hide hcw
  have HNN := hide hnn
  have HLO := hide hlo
  have HHO := hide hho
  have BA := hide bA
  have BB := hide bB
  have HL3 := hide hlow3
  clear hk hm hda hdl hlow hclip hcw hnn hlo hho bA bB bT hlow3
  go_enter Try.func72, Try.ntmps72
  go_wp2_with
    (first
    | (go_at_call 91
       refine HCL.out.mono ?_
       rintro en w' ⟨rfl, rfl⟩)
    | (at_builtin
       refine wpList_append_grows _ rfl (.tmp 15) (.tmp 17) 25 rfl 3 i0 (.int .i64 0) 1 8 Try.underlying25 hi hz0 hz1 hz2 rfl (by decide) oa k k (ints (ls.drop 8)) rfl HNN.out HLO.out HHO.out ⟨w.heap.size + 1 + 1, 0, none⟩ 1 1 [.int .i64 t] rfl rfl HCW.out (by simp [Value.oneCell']) (by omega) (by unfold maxLen; omega) (by omega) ?_
       intro v' w4 hown hgrow
       obtain ⟨g', ca', rfl⟩ := ownsRow_succ hown
       have kA := BA.out.grown hgrow (by simp)
       have kB := BB.out.grown hgrow (by simp)
       have cA0 : w4.cell? ⟨w.heap.size, 0, none⟩ = some (.bool there) := by rw [kA.cell]; rfl
       have cA1 : w4.cell? ⟨w.heap.size, 1, none⟩ = some (.string ty) := by rw [kA.cell]; rfl
       have cA2 : w4.cell? ⟨w.heap.size, 2, none⟩ = some (.int .i64 (lv ls 0)) := by rw [kA.cell]; rfl
       have cA3 : w4.cell? ⟨w.heap.size, 3, none⟩ = some (.int .i64 (lv ls 1)) := by rw [kA.cell]; rfl
       have cA4 : w4.cell? ⟨w.heap.size, 4, none⟩ = some (.int .i64 (lv ls 2)) := by rw [kA.cell]; rfl
       have cA5 : w4.cell? ⟨w.heap.size, 5, none⟩ = some (.int .i64 (lv ls 3)) := by rw [kA.cell]; rfl
       have cA6 : w4.cell? ⟨w.heap.size, 6, none⟩ = some (.int .i64 (lv ls 4)) := by rw [kA.cell]; rfl
       have cA7 : w4.cell? ⟨w.heap.size, 7, none⟩ = some (.int .i64 (lv ls 5)) := by rw [kA.cell]; rfl
       have cA8 : w4.cell? ⟨w.heap.size, 8, none⟩ = some (.int .i64 (lv ls 6)) := by rw [kA.cell]; rfl
       have cA9 : w4.cell? ⟨w.heap.size, 9, none⟩ = some (.int .i64 (lv ls 7)) := by rw [kA.cell]; rfl
       have cA10 : w4.cell? ⟨w.heap.size, 10, none⟩ = some (.int .i64 ((k : Int) + 8)) := by rw [kA.cell]; rfl
       have cA11 : w4.cell? ⟨w.heap.size, 11, none⟩ = some (.int .i64 hand) := by rw [kA.cell]; rfl
       have cA12 : w4.cell? ⟨w.heap.size, 12, none⟩ = some (.slice oa k ca) := by rw [kA.cell]; rfl
       have fA12 := kA.frozen 12
       have fA10 := kA.frozen 10
       have cB0 : w4.cell? ⟨w.heap.size + 1, 0, none⟩ = some (.bool false) := by rw [kB.cell]; rfl
       have fB0 := kB.frozen 0
       have cB1 : w4.cell? ⟨w.heap.size + 1, 1, none⟩ = some (.string ⟨#[]⟩) := by rw [kB.cell]; rfl
       have fB1 := kB.frozen 1
       have cB2 : w4.cell? ⟨w.heap.size + 1, 2, none⟩ = some (.int .i64 0) := by rw [kB.cell]; rfl
       have fB2 := kB.frozen 2
       have cB3 : w4.cell? ⟨w.heap.size + 1, 3, none⟩ = some (.int .i64 0) := by rw [kB.cell]; rfl
       have fB3 := kB.frozen 3
       have cB4 : w4.cell? ⟨w.heap.size + 1, 4, none⟩ = some (.int .i64 0) := by rw [kB.cell]; rfl
       have fB4 := kB.frozen 4
       have cB5 : w4.cell? ⟨w.heap.size + 1, 5, none⟩ = some (.int .i64 0) := by rw [kB.cell]; rfl
       have fB5 := kB.frozen 5
       have cB6 : w4.cell? ⟨w.heap.size + 1, 6, none⟩ = some (.int .i64 0) := by rw [kB.cell]; rfl
       have fB6 := kB.frozen 6
       have cB7 : w4.cell? ⟨w.heap.size + 1, 7, none⟩ = some (.int .i64 0) := by rw [kB.cell]; rfl
       have fB7 := kB.frozen 7
       have cB8 : w4.cell? ⟨w.heap.size + 1, 8, none⟩ = some (.int .i64 0) := by rw [kB.cell]; rfl
       have fB8 := kB.frozen 8
       have cB9 : w4.cell? ⟨w.heap.size + 1, 9, none⟩ = some (.int .i64 0) := by rw [kB.cell]; rfl
       have fB9 := kB.frozen 9
       have cB10 : w4.cell? ⟨w.heap.size + 1, 10, none⟩ = some (.int .i64 0) := by rw [kB.cell]; rfl
       have fB10 := kB.frozen 10
       have cB11 : w4.cell? ⟨w.heap.size + 1, 11, none⟩ = some (.int .i64 0) := by rw [kB.cell]; rfl
       have fB11 := kB.frozen 11
       have cB12 : w4.cell? ⟨w.heap.size + 1, 12, none⟩ = some (.slice none 0 0) := by rw [kB.cell]; rfl
       have fB12 := kB.frozen 12
       have KA := hide kA
       have KB := hide kB
       have HOWN := hide hown
       have HGR := hide hgrow
       clear kA kB hown hgrow))
  have hg := HOWN.out.lt g' rfl
  simp only [World.size_alloc] at hg
  have hgA : g' ≠ w.heap.size := by omega
  have hgB : g' ≠ w.heap.size + 1 := by omega
  have hkeep : (((((((((((((((w4.setCell ⟨w.heap.size, 12, none⟩ (.slice (some ⟨g', 0, none⟩) (k + 1) ca')).setCell ⟨w.heap.size, 10, none⟩ (.int .i64 ((k : Int) + 8 + 1))).setCell ⟨w.heap.size + 1, 0, none⟩ (.bool there)).setCell ⟨w.heap.size + 1, 1, none⟩ (.string ty)).setCell ⟨w.heap.size + 1, 2, none⟩ (.int .i64 (lv ls 0))).setCell ⟨w.heap.size + 1, 3, none⟩ (.int .i64 (lv ls 1))).setCell ⟨w.heap.size + 1, 4, none⟩ (.int .i64 (lv ls 2))).setCell ⟨w.heap.size + 1, 5, none⟩ (.int .i64 (lv ls 3))).setCell ⟨w.heap.size + 1, 6, none⟩ (.int .i64 (lv ls 4))).setCell ⟨w.heap.size + 1, 7, none⟩ (.int .i64 (lv ls 5))).setCell ⟨w.heap.size + 1, 8, none⟩ (.int .i64 (lv ls 6))).setCell ⟨w.heap.size + 1, 9, none⟩ (.int .i64 (lv ls 7))).setCell ⟨w.heap.size + 1, 10, none⟩ (.int .i64 ((k : Int) + 8 + 1))).setCell ⟨w.heap.size + 1, 11, none⟩ (.int .i64 hand)).setCell ⟨w.heap.size + 1, 12, none⟩ (.slice (some ⟨g', 0, none⟩) (k + 1) ca')).heap[g']? = w4.heap[g']? := by simp only [heap_set2 _ _ _ _ g' hgA, heap_set2 _ _ _ _ g' hgB]
  have hb : Blk (((((((((((((((w4.setCell ⟨w.heap.size, 12, none⟩ (.slice (some ⟨g', 0, none⟩) (k + 1) ca')).setCell ⟨w.heap.size, 10, none⟩ (.int .i64 ((k : Int) + 8 + 1))).setCell ⟨w.heap.size + 1, 0, none⟩ (.bool there)).setCell ⟨w.heap.size + 1, 1, none⟩ (.string ty)).setCell ⟨w.heap.size + 1, 2, none⟩ (.int .i64 (lv ls 0))).setCell ⟨w.heap.size + 1, 3, none⟩ (.int .i64 (lv ls 1))).setCell ⟨w.heap.size + 1, 4, none⟩ (.int .i64 (lv ls 2))).setCell ⟨w.heap.size + 1, 5, none⟩ (.int .i64 (lv ls 3))).setCell ⟨w.heap.size + 1, 6, none⟩ (.int .i64 (lv ls 4))).setCell ⟨w.heap.size + 1, 7, none⟩ (.int .i64 (lv ls 5))).setCell ⟨w.heap.size + 1, 8, none⟩ (.int .i64 (lv ls 6))).setCell ⟨w.heap.size + 1, 9, none⟩ (.int .i64 (lv ls 7))).setCell ⟨w.heap.size + 1, 10, none⟩ (.int .i64 ((k : Int) + 8 + 1))).setCell ⟨w.heap.size + 1, 11, none⟩ (.int .i64 hand)).setCell ⟨w.heap.size + 1, 12, none⟩ (.slice (some ⟨g', 0, none⟩) (k + 1) ca')) (w.heap.size + 1) 74 #[.bool there, .string ty, .int .i64 (lv ls 0), .int .i64 (lv ls 1), .int .i64 (lv ls 2), .int .i64 (lv ls 3), .int .i64 (lv ls 4), .int .i64 (lv ls 5), .int .i64 (lv ls 6), .int .i64 (lv ls 7), .int .i64 ((k : Int) + 8 + 1), .int .i64 hand, .slice (some ⟨g', 0, none⟩) (k + 1) ca'] := by
    have := ((((((((((((((KB.out.far (p := ⟨w.heap.size, 12, none⟩) (by show w.heap.size + 1 ≠ w.heap.size; omega) (.slice (some ⟨g', 0, none⟩) (k + 1) ca')).far (p := ⟨w.heap.size, 10, none⟩) (by show w.heap.size + 1 ≠ w.heap.size; omega) (.int .i64 ((k : Int) + 8 + 1))).set_ 0 (.bool there)).set_ 1 (.string ty)).set_ 2 (.int .i64 (lv ls 0))).set_ 3 (.int .i64 (lv ls 1))).set_ 4 (.int .i64 (lv ls 2))).set_ 5 (.int .i64 (lv ls 3))).set_ 6 (.int .i64 (lv ls 4))).set_ 7 (.int .i64 (lv ls 5))).set_ 8 (.int .i64 (lv ls 6))).set_ 9 (.int .i64 (lv ls 7))).set_ 10 (.int .i64 ((k : Int) + 8 + 1))).set_ 11 (.int .i64 hand)).set_ 12 (.slice (some ⟨g', 0, none⟩) (k + 1) ca')
    simpa using this
  have hlow : Below w.heap.size w (((((((((((((((w4.setCell ⟨w.heap.size, 12, none⟩ (.slice (some ⟨g', 0, none⟩) (k + 1) ca')).setCell ⟨w.heap.size, 10, none⟩ (.int .i64 ((k : Int) + 8 + 1))).setCell ⟨w.heap.size + 1, 0, none⟩ (.bool there)).setCell ⟨w.heap.size + 1, 1, none⟩ (.string ty)).setCell ⟨w.heap.size + 1, 2, none⟩ (.int .i64 (lv ls 0))).setCell ⟨w.heap.size + 1, 3, none⟩ (.int .i64 (lv ls 1))).setCell ⟨w.heap.size + 1, 4, none⟩ (.int .i64 (lv ls 2))).setCell ⟨w.heap.size + 1, 5, none⟩ (.int .i64 (lv ls 3))).setCell ⟨w.heap.size + 1, 6, none⟩ (.int .i64 (lv ls 4))).setCell ⟨w.heap.size + 1, 7, none⟩ (.int .i64 (lv ls 5))).setCell ⟨w.heap.size + 1, 8, none⟩ (.int .i64 (lv ls 6))).setCell ⟨w.heap.size + 1, 9, none⟩ (.int .i64 (lv ls 7))).setCell ⟨w.heap.size + 1, 10, none⟩ (.int .i64 ((k : Int) + 8 + 1))).setCell ⟨w.heap.size + 1, 11, none⟩ (.int .i64 hand)).setCell ⟨w.heap.size + 1, 12, none⟩ (.slice (some ⟨g', 0, none⟩) (k + 1) ca')) := by
    have h4 : Below w.heap.size w w4 := HL3.out.trans (below_grown HGR.out (by simp; omega))
    repeat' (refine Below.setCell ?_ (by first | exact Nat.le_refl _ | exact Nat.le_succ _) _)
    exact h4
  have hsize : (((((((((((((((w4.setCell ⟨w.heap.size, 12, none⟩ (.slice (some ⟨g', 0, none⟩) (k + 1) ca')).setCell ⟨w.heap.size, 10, none⟩ (.int .i64 ((k : Int) + 8 + 1))).setCell ⟨w.heap.size + 1, 0, none⟩ (.bool there)).setCell ⟨w.heap.size + 1, 1, none⟩ (.string ty)).setCell ⟨w.heap.size + 1, 2, none⟩ (.int .i64 (lv ls 0))).setCell ⟨w.heap.size + 1, 3, none⟩ (.int .i64 (lv ls 1))).setCell ⟨w.heap.size + 1, 4, none⟩ (.int .i64 (lv ls 2))).setCell ⟨w.heap.size + 1, 5, none⟩ (.int .i64 (lv ls 3))).setCell ⟨w.heap.size + 1, 6, none⟩ (.int .i64 (lv ls 4))).setCell ⟨w.heap.size + 1, 7, none⟩ (.int .i64 (lv ls 5))).setCell ⟨w.heap.size + 1, 8, none⟩ (.int .i64 (lv ls 6))).setCell ⟨w.heap.size + 1, 9, none⟩ (.int .i64 (lv ls 7))).setCell ⟨w.heap.size + 1, 10, none⟩ (.int .i64 ((k : Int) + 8 + 1))).setCell ⟨w.heap.size + 1, 11, none⟩ (.int .i64 hand)).setCell ⟨w.heap.size + 1, 12, none⟩ (.slice (some ⟨g', 0, none⟩) (k + 1) ca')).heap.size = w4.heap.size := by simp
  generalize (((((((((((((((w4.setCell ⟨w.heap.size, 12, none⟩ (.slice (some ⟨g', 0, none⟩) (k + 1) ca')).setCell ⟨w.heap.size, 10, none⟩ (.int .i64 ((k : Int) + 8 + 1))).setCell ⟨w.heap.size + 1, 0, none⟩ (.bool there)).setCell ⟨w.heap.size + 1, 1, none⟩ (.string ty)).setCell ⟨w.heap.size + 1, 2, none⟩ (.int .i64 (lv ls 0))).setCell ⟨w.heap.size + 1, 3, none⟩ (.int .i64 (lv ls 1))).setCell ⟨w.heap.size + 1, 4, none⟩ (.int .i64 (lv ls 2))).setCell ⟨w.heap.size + 1, 5, none⟩ (.int .i64 (lv ls 3))).setCell ⟨w.heap.size + 1, 6, none⟩ (.int .i64 (lv ls 4))).setCell ⟨w.heap.size + 1, 7, none⟩ (.int .i64 (lv ls 5))).setCell ⟨w.heap.size + 1, 8, none⟩ (.int .i64 (lv ls 6))).setCell ⟨w.heap.size + 1, 9, none⟩ (.int .i64 (lv ls 7))).setCell ⟨w.heap.size + 1, 10, none⟩ (.int .i64 ((k : Int) + 8 + 1))).setCell ⟨w.heap.size + 1, 11, none⟩ (.int .i64 hand)).setCell ⟨w.heap.size + 1, 12, none⟩ (.slice (some ⟨g', 0, none⟩) (k + 1) ca')) = Wz at *
  have hown2 : Wz.ownsRow 0 3 1 (.slice (some ⟨g', 0, none⟩) (k + 1) ca') (k + 1) (ints (ls.drop 8) ++ [.int .i64 t]) :=
    own_keep (own_rebase HOWN.out (fun _ _ => Nat.zero_le _)) (fun q hq => by simp [Value.ownBlock] at hq; subst hq; exact hkeep)
  have hlen : (ls.drop 8 ++ [t]).length = k + 1 := by simp only [List.length_append, List.length_singleton, HDL.out]
  have z0 : Wz.cell? ⟨w.heap.size + 1, 0, none⟩ = some (.bool there) := by rw [hb.cell]; rfl
  have z1 : Wz.cell? ⟨w.heap.size + 1, 1, none⟩ = some (.string ty) := by rw [hb.cell]; rfl
  have z2 : Wz.cell? ⟨w.heap.size + 1, 2, none⟩ = some (.int .i64 (lv ls 0)) := by rw [hb.cell]; rfl
  have z3 : Wz.cell? ⟨w.heap.size + 1, 3, none⟩ = some (.int .i64 (lv ls 1)) := by rw [hb.cell]; rfl
  have z4 : Wz.cell? ⟨w.heap.size + 1, 4, none⟩ = some (.int .i64 (lv ls 2)) := by rw [hb.cell]; rfl
  have z5 : Wz.cell? ⟨w.heap.size + 1, 5, none⟩ = some (.int .i64 (lv ls 3)) := by rw [hb.cell]; rfl
  have z6 : Wz.cell? ⟨w.heap.size + 1, 6, none⟩ = some (.int .i64 (lv ls 4)) := by rw [hb.cell]; rfl
  have z7 : Wz.cell? ⟨w.heap.size + 1, 7, none⟩ = some (.int .i64 (lv ls 5)) := by rw [hb.cell]; rfl
  have z8 : Wz.cell? ⟨w.heap.size + 1, 8, none⟩ = some (.int .i64 (lv ls 6)) := by rw [hb.cell]; rfl
  have z9 : Wz.cell? ⟨w.heap.size + 1, 9, none⟩ = some (.int .i64 (lv ls 7)) := by rw [hb.cell]; rfl
  have z10 : Wz.cell? ⟨w.heap.size + 1, 10, none⟩ = some (.int .i64 ((k : Int) + 8 + 1)) := by rw [hb.cell]; rfl
  have z11 : Wz.cell? ⟨w.heap.size + 1, 11, none⟩ = some (.int .i64 hand) := by rw [hb.cell]; rfl
  have z12 : Wz.cell? ⟨w.heap.size + 1, 12, none⟩ = some (.slice (some ⟨g', 0, none⟩) (k + 1) ca') := by rw [hb.cell]; rfl
  refine bodyPost_ret (v := .agg #[.bool there, .string ty, .int .i64 (lv ls 0), .int .i64 (lv ls 1), .int .i64 (lv ls 2), .int .i64 (lv ls 3), .int .i64 (lv ls 4), .int .i64 (lv ls 5), .int .i64 (lv ls 6), .int .i64 (lv ls 7), .int .i64 ((k : Int) + 8 + 1), .int .i64 hand, .slice (some ⟨g', 0, none⟩) (k + 1) ca']) ?_ rfl ⟨g', ca', rfl, ?_, hlow⟩
  · simp only [results, hres]
    go_simp
  · rw [HDA.out]
    obtain ⟨q, cq, eq, hle, htop⟩ := own_form hown2 (by omega)
    have ec : cq = ca' := by injection eq with _ _ e; exact e.symm
    subst ec
    refine ⟨⟨by rw [hlen]; exact hle, htop, (fun e => by cases e), (fun b hb' => by cases hb'; exact ⟨g', rfl, by omega⟩), fun i x hx => ⟨g', rfl, by omega, ?_⟩⟩, fun b hb' => by
      cases hb'
      rcases hown2.2 with ⟨_, h0⟩ | ⟨gq, capq, cur, eqq, _, hcur, _⟩
      · omega
      · obtain rfl : gq = g' := by injection eqq with e; injection e with e; injection e with e; exact e.symm
        exact ⟨cur, hcur⟩⟩
    have hi2 : i < k + 1 := by have := (List.getElem?_eq_some_iff.1 hx).1; omega
    rw [hown2.cellAt i (by omega)]
    have e3 : ints (ls.drop 8) ++ [.int .i64 t] = ints (ls.drop 8 ++ [t]) := by simp [ints]
    rw [e3, ints, List.getElem?_map, hx]
    rfl
end Go.Proofs.Ytjflllfkgbhemaa
