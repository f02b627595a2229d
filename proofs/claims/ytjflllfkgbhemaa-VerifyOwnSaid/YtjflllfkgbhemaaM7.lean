/- Several texts in one: The walks of the reference's looks at a program's tables. The walks of the reference's table of instructions. The walk of the reference's table of instructions. Conditions: those of each. -/
import Derived.Test.YtjflllfkgbhemaaM6
/- The walks of the reference's looks at a program's tables. Conditions: the rows lie in memory. -/
namespace Go.Proofs.Ytjflllfkgbhemaa
open Go.RowKit
theorem add_fld (a : Addr) (m k : Nat) : a.add (m + (k + 1)) = ⟨(a.add m).block, (a.add m).off + (k + 1), none⟩ := by
  obtain ⟨b, o, e⟩ := a
  cases m <;> simp [Addr.add] <;> omega
theorem src_at {w : World} {oa : Option Addr} {n : Nat} {cs : List Value} (h : Src w oa n cs) (h0 : 0 < n) : ∃ ad, oa = some ad ∧ ad.block < w.heap.size ∧ ∀ W, Below w.heap.size w W → ∀ j v, cs[j]? = some v → W.cell? (ad.add j) = some v := by
  obtain ⟨ad, e, hl, hx⟩ := h h0
  exact ⟨ad, e, hl, fun W hb j v hj => (hb.cell (by rw [add_block]; exact hl)).trans (hx j v hj)⟩
set_option maxRecDepth 100000 in
theorem to_i (w : World) (a b c : Int) : Calls Try.prog 75 #[.int .i64 a, .int .i64 b, .int .i64 c] w fun en w' => en = .returned (.bool (fromV a b c)) ∧ w' = w := by
  by_cases h1 : b ≤ a
  · by_cases h2 : a ≤ c
    · have hf : fromV a b c = true := by simp [fromV, h1, h2]
      rw [hf]
      go_enter Try.func75, Try.ntmps75
      go_wp2_with fail
      go_ret
      exact ⟨rfl, rfl⟩
    · have hf : fromV a b c = false := by simp [fromV, h2]
      rw [hf]
      go_enter Try.func75, Try.ntmps75
      go_wp2_with fail
      go_ret
      exact ⟨rfl, rfl⟩
  · have hf : fromV a b c = false := by simp [fromV, h1]
    rw [hf]
    go_enter Try.func75, Try.ntmps75
    go_wp2_with fail
    go_ret
    exact ⟨rfl, rfl⟩
set_option maxRecDepth 100000 in
set_option maxHeartbeats 4000000 in
theorem vars_r (w : World) (oa : Option Addr) (n ca : Nat) (l : List Vr) (h : Src w oa n (varsV l)) (hn : l.length = n) (hm : n ≤ maxLen) :
    Calls Try.prog 54 #[.slice oa n ca] w fun en w' => en = .returned (.bool (l.all vrOk)) ∧ Below w.heap.size w w' := by
  have HSRC := hide h
  unfold maxLen at hm
  clear h
  go_enter Try.func54, Try.ntmps54
  go_wp2_with fail
  go_loopw [3] (fun tx W => ∃ i : Nat, tx = .int .i64 (i : Int) ∧ i ≤ n ∧ (l.take i).all vrOk = true ∧ Below w.heap.size w W) (fun tx _ => n - (intOf tx).toNat)
  case atStart => exact ⟨0, rfl, Nat.zero_le _, by simp, Below.refl _ _⟩
  case round =>
    obtain ⟨i, rfl, hi, hall, hB⟩ := hrel
    rename World => W
    have HA := hide hall
    have HB := hide hB
    clear hall hB
    by_cases hlt : i < n
    · obtain ⟨x, hx⟩ : ∃ x, l[i]? = some x := ⟨_, List.getElem?_eq_getElem (by omega)⟩
      obtain ⟨ad, rfl, hab, hcl⟩ := src_at HSRC.out (by omega)
      obtain ⟨g0, g1, g2⟩ := varsV_get hx
      have c0 := hcl W.drew HB.out.drew _ _ g0
      have c1 := hcl W.drew HB.out.drew _ _ g1
      have c2 := hcl W.drew HB.out.drew _ _ g2
      rw [add_fld ad (i * 3) 0] at c1
      rw [add_fld ad (i * 3) 1] at c2
      have u1 := IntWalk.i64_in ((i : Int) + 1) (by omega)
      have HX := hide hx
      have HN := hide hn
      obtain ⟨x0, x1, x2⟩ := x
      simp only at c0 c1 c2
      have hvo := vrOk_iff ⟨x0, x1, x2⟩
      simp only at hvo
      clear hcl hab hx g0 g1 g2 hn
      by_cases v1 : x1 ≤ x0
      · have w1 : ¬ x0 < x1 := by omega
        by_cases v2 : x0 ≤ x2
        · have w2 : ¬ x2 < x0 := by omega
          by_cases v3 : -1073741824 ≤ x1
          · have w3 : ¬ x1 < -1073741824 := by omega
            by_cases v4 : x2 ≤ 1073741824
            · have w4 : ¬ 1073741824 < x2 := by omega
              have HV := hide (hvo.2 ⟨v1, v2, v3, v4⟩)
              clear hvo v1 v2 v3 v4
              go_upto_region 4 with fail
              go_region
              all_goals
                go_wp2_with fail
                go_roundw
                case rel => exact ⟨i + 1, by go_num, by omega, all_take_succ HX.out HA.out HV.out, HB.out.drew⟩
                case measure => simp [intOf]; omega
            · have hf : l.all vrOk = false := all_false HX.out (by simpa using fun h => v4 (hvo.1 h).2.2.2)
              have w4 : 1073741824 < x2 := by omega
              have HF := hide hf
              clear hvo v1 v2 v3 v4 hf
              go_upto_region 4 with fail
              go_region
              all_goals
                go_wp2_with fail
                go_ret
                exact ⟨by rw [HF.out]; rfl, HB.out.drew⟩
          · have hf : l.all vrOk = false := all_false HX.out (by simpa using fun h => v3 (hvo.1 h).2.2.1)
            have w3 : x1 < -1073741824 := by omega
            have HF := hide hf
            clear hvo v1 v2 v3 hf
            go_upto_region 4 with fail
            go_region
            all_goals
              go_wp2_with fail
              go_ret
              exact ⟨by rw [HF.out]; rfl, HB.out.drew⟩
        · have hf : l.all vrOk = false := all_false HX.out (by simpa using fun h => v2 (hvo.1 h).2.1)
          have w2 : x2 < x0 := by omega
          have HF := hide hf
          clear hvo v1 v2 hf
          go_upto_region 4 with fail
          go_region
          all_goals
            go_wp2_with fail
            go_ret
            exact ⟨by rw [HF.out]; rfl, HB.out.drew⟩
      · have hf : l.all vrOk = false := all_false HX.out (by simpa using fun h => v1 (hvo.1 h).1)
        have w1 : x0 < x1 := by omega
        have HF := hide hf
        clear hvo v1 hf
        go_upto_region 4 with fail
        go_region
        all_goals
          go_wp2_with fail
          go_ret
          exact ⟨by rw [HF.out]; rfl, HB.out.drew⟩
    · have hal : l.all vrOk = true := by
        have := HA.out
        rw [List.take_of_length_le (by omega)] at this
        exact this
      have HAL := hide hal
      have hno : ¬ (i : Int) < (n : Int) := by omega
      clear hal hlt hi
      go_wp2_with fail
      go_ret
      exact ⟨by rw [HAL.out]; rfl, HB.out⟩
set_option maxRecDepth 100000 in
set_option maxHeartbeats 4000000 in
theorem tags_r (w : World) (oa : Option Addr) (n ca : Nat) (l : List Int) (h : Src w oa n (ints l)) (hn : l.length = n) (hm : n ≤ maxLen) :
    Calls Try.prog 55 #[.slice oa n ca] w fun en w' => en = .returned (.bool (l.all fun t => fromV t 1 255)) ∧ Below w.heap.size w w' := by
  have HSRC := hide h
  unfold maxLen at hm
  clear h
  go_enter Try.func55, Try.ntmps55
  go_wp2_with fail
  go_loopw [3] (fun tx W => ∃ i : Nat, tx = .int .i64 (i : Int) ∧ i ≤ n ∧ (l.take i).all (fun t => fromV t 1 255) = true ∧ Below w.heap.size w W) (fun tx _ => n - (intOf tx).toNat)
  case atStart => exact ⟨0, rfl, Nat.zero_le _, by simp, Below.refl _ _⟩
  case round =>
    obtain ⟨i, rfl, hi, hall, hB⟩ := hrel
    rename World => W
    have HA := hide hall
    have HB := hide hB
    clear hall hB
    by_cases hlt : i < n
    · obtain ⟨x, hx⟩ : ∃ x, l[i]? = some x := ⟨_, List.getElem?_eq_getElem (by omega)⟩
      obtain ⟨ad, rfl, hab, hcl⟩ := src_at HSRC.out (by omega)
      have c0 := hcl W HB.out i (.int .i64 x) (by simp [ints, hx])
      have u1 := IntWalk.i64_in ((i : Int) + 1) (by omega)
      have HX := hide hx
      have HN := hide hn
      obtain ⟨f, hf⟩ : ∃ f, fromV x 1 255 = f := ⟨_, rfl⟩
      have HF := hide hf
      have HT := hide (to_i W x 1 255)
      rw [hf] at HT
      clear hcl hab hx hn hf
      cases f
      all_goals
        go_wp2_with (go_at_call 75
                     refine HT.out.mono ?_
                     rintro en w1 ⟨rfl, hw⟩
                     obtain rfl := hw.symm
                     clear hw)
      · go_ret
        exact ⟨by rw [all_false HX.out HF.out]; rfl, HB.out⟩
      · go_roundw
        case rel => exact ⟨i + 1, by go_num, by omega, all_take_succ HX.out HA.out HF.out, HB.out⟩
        case measure => simp [intOf]; omega
    · have hal : (l.all fun t => fromV t 1 255) = true := by
        have := HA.out
        rw [List.take_of_length_le (by omega)] at this
        exact this
      have HAL := hide hal
      have hno : ¬ (i : Int) < (n : Int) := by omega
      clear hal hlt hi
      go_wp2_with fail
      go_ret
      exact ⟨by rw [HAL.out]; rfl, HB.out⟩
end Go.Proofs.Ytjflllfkgbhemaa

/- The walks of the reference's table of instructions. Conditions: none but lengths' bounds. -/
namespace Go.Proofs.Ytjflllfkgbhemaa
open Go.RowKit
/-- may a number be an operand of a kind -/
def fitsK (P : Prg) (k n : Int) : Bool :=
  if k = 1 then decide (0 ≤ n) && decide (n < (P.gh.length : Int)) else if k = 2 then decide (0 ≤ n) && decide (n < (P.vs.length : Int)) else if k = 3 then decide (0 ≤ n) && decide (n < (P.ts.length : Int))
  else if k = 4 then n == 0 || n == 1 else if k = 6 then n == 0 || n == 1 else if k = 5 then decide (-1073741824 ≤ n) && decide (n ≤ 1073741824) else if k = 7 then decide (0 ≤ n) && decide (n ≤ 4194304) else if k = 8 then decide (0 ≤ n) && decide (n < (P.cd.length : Int)) else n == 0
def kindL (o : Option UInt8) : Int :=
  match o with
  | none => 0
  | some c => if c.toNat = 113 then 1 else if c.toNat = 118 then 2 else if c.toNat = 116 then 3 else if c.toNat = 110 then 5 else if c.toNat = 114 then 7 else if c.toNat = 112 then 8 else if c.toNat = 98 then 6 else 4
def rKind (r : ByteArray × ByteArray) (m : Nat) : Int := kindL r.2.data[m]?
theorem fits_op (P : Prg) (r : ByteArray × ByteArray) (x : Ins) (m : Nat) : fitsK P (rKind r m) (x.arg m) = opOk P r.2 x m := by
  unfold opOk opB rKind kindL
  cases r.2.data[m]? with
  | none =>
    simp only [fitsK, fromV]
    by_cases h : x.arg m = 0
    · simp [h]
    · by_cases h0 : 0 ≤ x.arg m
      · have h1 : ¬ x.arg m ≤ 0 := by omega
        simp [h, h1]
      · simp [h, h0]
  | some c =>
    simp only [boundsV]
    generalize x.arg m = n
    have e : ∀ k : Nat, ((c.toNat : Int) = (k : Int)) = (c.toNat = k) := fun k => propext ⟨fun h => by omega, fun h => by omega⟩
    have e1 := e 113
    have e2 := e 118
    have e3 := e 116
    have e4 := e 110
    have e5 := e 114
    have e6 := e 112
    simp only [show ((113 : Nat) : Int) = 113 from rfl, show ((118 : Nat) : Int) = 118 from rfl, show ((116 : Nat) : Int) = 116 from rfl, show ((110 : Nat) : Int) = 110 from rfl, show ((114 : Nat) : Int) = 114 from rfl, show ((112 : Nat) : Int) = 112 from rfl] at e1 e2 e3 e4 e5 e6
    simp only [e1, e2, e3, e4, e5, e6]
    have hl : ∀ (k : Int) (a : Int), decide (a < k) = decide (a ≤ k - 1) := fun k a => by
      by_cases h : a < k
      · simp [h, show a ≤ k - 1 by omega]
      · simp [h, show ¬ a ≤ k - 1 by omega]
    have hb : (n == 0 || n == 1) = (decide (0 ≤ n) && decide (n ≤ 1)) := by
      by_cases h0 : n = 0
      · simp [h0]
      · by_cases h1 : n = 1
        · simp [h1]
        · by_cases h2 : 0 ≤ n
          · simp [h0, h1, show ¬ n ≤ 1 by omega]
          · simp [h0, h1, h2]
    repeat' split
    all_goals simp [fitsK, fromV, hl, hb]
set_option linter.unusedSimpArgs false in
set_option linter.unusedVariables false in
set_option maxRecDepth 100000 in
set_option maxHeartbeats 4000000 in
theorem fits_i (w : World) (p : PV) (P : Prg) (h1 : p.gl = P.gh.length) (h2 : p.vl = P.vs.length) (h3 : p.tl = P.ts.length) (h5 : p.cl = P.cd.length) (lens : p.gl ≤ maxLen ∧ p.vl ≤ maxLen ∧ p.tl ≤ maxLen ∧ p.cl ≤ maxLen) (k n : Int) :
    Calls Try.prog 58 #[p.val, .int .i64 k, .int .i64 n] w fun en w' => en = .returned (.bool (fitsK P k n)) ∧ Below w.heap.size w w' := by
  obtain ⟨ga, va, ta, oa, ca, gl, gc, vl, vc, tl, tc, ol, oc, cl, cc, miss⟩ := p
  obtain ⟨l1, l2, l3, l5⟩ := lens
  simp only at h1 h2 h3 h5 l1 l2 l3 l5
  simp only [PV.val]
  unfold maxLen at l1 l2 l3 l5
  obtain ⟨f, hf⟩ : ∃ f, fitsK P k n = f := ⟨_, rfl⟩
  rw [hf]
  unfold fitsK at hf
  rw [← h1, ← h2, ← h3, ← h5] at hf
  have HF := hide hf
  clear h1 h2 h3 h5 hf
  go_enter Try.func58, Try.ntmps58
  go_wp2_with fail
  all_goals
    go_ret
    refine ⟨?_, by first | exact (Below.refl _ w).alloc (Nat.le_refl _) _ | exact ((Below.refl _ w).alloc (Nat.le_refl _) _).drew | exact below_drewN ((Below.refl _ w).alloc (Nat.le_refl _) _) _⟩
    simp only [beq_iff_eq, beq_eq_false_iff_ne, ne_eq] at *
    rw [← HF.out]
    simp [*] <;> (intros; omega)
def isC (l : List Int) (i k : Nat) : Value := .int .i64 (if k < i then (l[k]?).getD 0 else 0)
def rowC (s : ByteArray) (l : List Int) (i : Nat) : Array Value := #[.string s, isC l i 0, isC l i 1, isC l i 2, isC l i 3]
theorem rowC_next (s : ByteArray) (l : List Int) (i : Nat) (x : Int) (hx : l[i]? = some x) (hi : i < 4) : (rowC s l i).setIfInBounds (1 + i) (.int .i64 x) = rowC s l (i + 1) := by
  obtain rfl | rfl | rfl | rfl : i = 0 ∨ i = 1 ∨ i = 2 ∨ i = 3 := by omega
  all_goals
    unfold rowC isC
    simp [hx]
set_option linter.unusedVariables false in
set_option maxRecDepth 100000 in
set_option maxHeartbeats 4000000 in
theorem row_i (w : World) (s : ByteArray) (oa : Option Addr) (n ca : Nat) (l : List Int) (h : Src w oa n (ints l)) (hn : l.length = n) (hm : n ≤ 4) :
    Calls Try.prog 76 #[.string s, .slice oa n ca] w fun en w' => en = .returned (.agg (rowC s l n)) ∧ Below w.heap.size w w' := by
  have HSRC := hide h
  clear h
  have hres : Try.f76.results = #[.cell 4 118] := by kernel_rfl
  have HRES := hide hres
  clear hres
  go_enter Try.func76, Try.ntmps76
  go_wp2_with fail
  have hk0 : Blk ((w.alloc (.cells #[.string ⟨#[]⟩, .int .i64 0, .int .i64 0, .int .i64 0, .int .i64 0] 118)).alloc (.cells #[.string s, .int .i64 0, .int .i64 0, .int .i64 0, .int .i64 0] 118)) w.heap.size 118 #[.string ⟨#[]⟩, .int .i64 0, .int .i64 0, .int .i64 0, .int .i64 0] := (Blk.new w 118 _).alloc _
  have hk1 : Blk ((w.alloc (.cells #[.string ⟨#[]⟩, .int .i64 0, .int .i64 0, .int .i64 0, .int .i64 0] 118)).alloc (.cells #[.string s, .int .i64 0, .int .i64 0, .int .i64 0, .int .i64 0] 118)) (w.heap.size + 1) 118 (rowC s l 0) := by
    have := Blk.new (w.alloc (.cells #[.string ⟨#[]⟩, .int .i64 0, .int .i64 0, .int .i64 0, .int .i64 0] 118)) 118 (rowC s l 0)
    have e : (w.alloc (.cells #[.string ⟨#[]⟩, .int .i64 0, .int .i64 0, .int .i64 0, .int .i64 0] 118)).heap.size = w.heap.size + 1 := by simp
    rw [e] at this
    exact this
  have hB := ((Below.refl w.heap.size w).alloc (Nat.le_refl _) (.cells #[.string ⟨#[]⟩, .int .i64 0, .int .i64 0, .int .i64 0, .int .i64 0] 118)).alloc (by simp) (.cells #[.string s, .int .i64 0, .int .i64 0, .int .i64 0, .int .i64 0] 118)
  have HK0 := hide hk0
  have HK1 := hide hk1
  have HB0 := hide hB
  clear hk0 hk1 hB
  generalize ((w.alloc (.cells #[.string ⟨#[]⟩, .int .i64 0, .int .i64 0, .int .i64 0, .int .i64 0] 118)).alloc (.cells #[.string s, .int .i64 0, .int .i64 0, .int .i64 0, .int .i64 0] 118)) = W0 at *
  go_loopw [6] (fun tx W => ∃ i : Nat, tx = .int .i64 (i : Int) ∧ i ≤ n ∧ Blk W w.heap.size 118 #[.string ⟨#[]⟩, .int .i64 0, .int .i64 0, .int .i64 0, .int .i64 0] ∧ Blk W (w.heap.size + 1) 118 (rowC s l i) ∧ Below w.heap.size w W) (fun tx _ => n - (intOf tx).toNat)
  case atStart => exact ⟨0, rfl, Nat.zero_le _, HK0.out, HK1.out, HB0.out⟩
  case round =>
    obtain ⟨i, rfl, hi, hk0, hk1, hB⟩ := hrel
    rename World => W
    clear HK0 HK1 HB0
    have HK0 := hide hk0
    have HK1 := hide hk1
    have HB := hide hB
    clear hk0 hk1 hB
    have hg : w.heap.size = w.heap.size := rfl
    generalize hgg : w.heap.size = g at *
    have HGG := hide hgg
    clear hgg hg
    by_cases hlt : i < n
    · obtain ⟨x, hx⟩ : ∃ x, l[i]? = some x := ⟨_, List.getElem?_eq_getElem (by omega)⟩
      obtain ⟨ad, rfl, hab, hcl⟩ := src_at HSRC.out (by omega)
      have c0 := hcl W (by rw [HGG.out]; exact HB.out) i (.int .i64 x) (by simp [ints, hx])
      have c5 : W.cell? ⟨g + 1, 1 + i, none⟩ = some (isC l i i) := by
        rw [HK1.out.cell]
        obtain rfl | rfl | rfl | rfl : i = 0 ∨ i = 1 ∨ i = 2 ∨ i = 3 := by omega
        all_goals rfl
      have f5 := HK1.out.frozen (1 + i)
      have u1 := IntWalk.i64_in ((i : Int) + 1) (by omega)
      have u2 : (i : Int) < 4 := by omega
      have HN2 := rowC_next s l i x hx (by omega)
      have HN3 := hide HN2
      have HN := hide hn
      clear hcl hab hx hn HN2
      go_wp2_with fail
      go_roundw
      case rel => exact ⟨i + 1, by go_num, by omega, HK0.out.far (by simp) _, by rw [← HN3.out]; exact HK1.out.set_ (1 + i) _, HB.out.setCell (by simp) _⟩
      case measure => simp [intOf]; omega
    · obtain rfl : i = n := by omega
      have c0 : W.cell? ⟨g + 1, 0, none⟩ = some (.string s) := by rw [HK1.out.cell]; rfl
      have c1 : W.cell? ⟨g + 1, 1, none⟩ = some (isC l i 0) := by rw [HK1.out.cell]; rfl
      have c2 : W.cell? ⟨g + 1, 2, none⟩ = some (isC l i 1) := by rw [HK1.out.cell]; rfl
      have c3 : W.cell? ⟨g + 1, 3, none⟩ = some (isC l i 2) := by rw [HK1.out.cell]; rfl
      have c4 : W.cell? ⟨g + 1, 4, none⟩ = some (isC l i 3) := by rw [HK1.out.cell]; rfl
      have d0 : W.cell? ⟨g, 0, none⟩ = some (.string ⟨#[]⟩) := by rw [HK0.out.cell]; rfl
      have d1 : W.cell? ⟨g, 1, none⟩ = some (.int .i64 0) := by rw [HK0.out.cell]; rfl
      have d2 : W.cell? ⟨g, 2, none⟩ = some (.int .i64 0) := by rw [HK0.out.cell]; rfl
      have d3 : W.cell? ⟨g, 3, none⟩ = some (.int .i64 0) := by rw [HK0.out.cell]; rfl
      have d4 : W.cell? ⟨g, 4, none⟩ = some (.int .i64 0) := by rw [HK0.out.cell]; rfl
      have f0 := HK0.out.frozen 0
      have f1 := HK0.out.frozen 1
      have f2 := HK0.out.frozen 2
      have f3 := HK0.out.frozen 3
      have f4 := HK0.out.frozen 4
      have hno : ¬ (i : Int) < (i : Int) := by omega
      clear hlt hn hi
      obtain ⟨a0, h0⟩ : ∃ a : Int, isC l i 0 = .int .i64 a := ⟨_, rfl⟩
      obtain ⟨a1, h1⟩ : ∃ a : Int, isC l i 1 = .int .i64 a := ⟨_, rfl⟩
      obtain ⟨a2, h2⟩ : ∃ a : Int, isC l i 2 = .int .i64 a := ⟨_, rfl⟩
      obtain ⟨a3, h3⟩ : ∃ a : Int, isC l i 3 = .int .i64 a := ⟨_, rfl⟩
      have hrow : rowC s l i = #[.string s, .int .i64 a0, .int .i64 a1, .int .i64 a2, .int .i64 a3] := by unfold rowC; rw [h0, h1, h2, h3]
      have HROW := hide hrow
      rw [h0] at c1
      rw [h1] at c2
      rw [h2] at c3
      rw [h3] at c4
      clear h0 h1 h2 h3 hrow
      go_wp2_with fail
      have kF : Blk (((((W.setCell ⟨g, 0, none⟩ (.string s)).setCell ⟨g, 1, none⟩ (.int .i64 a0)).setCell ⟨g, 2, none⟩ (.int .i64 a1)).setCell ⟨g, 3, none⟩ (.int .i64 a2)).setCell ⟨g, 4, none⟩ (.int .i64 a3)) g 118 #[.string s, .int .i64 a0, .int .i64 a1, .int .i64 a2, .int .i64 a3] := ((((HK0.out.set_ 0 _).set_ 1 _).set_ 2 _).set_ 3 _).set_ 4 _
      have hF : Below w.heap.size w (((((W.setCell ⟨g, 0, none⟩ (.string s)).setCell ⟨g, 1, none⟩ (.int .i64 a0)).setCell ⟨g, 2, none⟩ (.int .i64 a1)).setCell ⟨g, 3, none⟩ (.int .i64 a2)).setCell ⟨g, 4, none⟩ (.int .i64 a3)) := by
        rw [HGG.out]
        exact ((((HB.out.setCell (Nat.le_refl _) _).setCell (Nat.le_refl _) _).setCell (Nat.le_refl _) _).setCell (Nat.le_refl _) _).setCell (Nat.le_refl _) _
      rw [← HGG.out] at *
      generalize (((((W.setCell ⟨w.heap.size, 0, none⟩ (.string s)).setCell ⟨w.heap.size, 1, none⟩ (.int .i64 a0)).setCell ⟨w.heap.size, 2, none⟩ (.int .i64 a1)).setCell ⟨w.heap.size, 3, none⟩ (.int .i64 a2)).setCell ⟨w.heap.size, 4, none⟩ (.int .i64 a3)) = WF at *
      have z0 : WF.cell? ⟨w.heap.size, 0, none⟩ = some (.string s) := by rw [kF.cell]; rfl
      have z1 : WF.cell? ⟨w.heap.size, 1, none⟩ = some (.int .i64 a0) := by rw [kF.cell]; rfl
      have z2 : WF.cell? ⟨w.heap.size, 2, none⟩ = some (.int .i64 a1) := by rw [kF.cell]; rfl
      have z3 : WF.cell? ⟨w.heap.size, 3, none⟩ = some (.int .i64 a2) := by rw [kF.cell]; rfl
      have z4 : WF.cell? ⟨w.heap.size, 4, none⟩ = some (.int .i64 a3) := by rw [kF.cell]; rfl
      refine bodyPost_ret (v := .agg #[.string s, .int .i64 a0, .int .i64 a1, .int .i64 a2, .int .i64 a3]) ?_ rfl ⟨by rw [HROW.out], hF⟩
      simp only [results, HRES.out]
      go_simp
end Go.Proofs.Ytjflllfkgbhemaa

/- The walk of the reference's table of instructions. Conditions: none. -/
namespace Go.Proofs.Ytjflllfkgbhemaa
open Go.RowKit
/-- the table's cells -/
def tblC : List Value := table.flatMap fun r => [.string r.1, .int .i64 (rKind r 0), .int .i64 (rKind r 1), .int .i64 (rKind r 2), .int .i64 (rKind r 3)]
def tblParts : Array (Nat × Value) := #[(0, .agg #[.string ⟨#[101, 110, 100]⟩, .int .i64 0, .int .i64 0, .int .i64 0, .int .i64 0]), (1, .agg #[.string ⟨#[110, 117, 109]⟩, .int .i64 5, .int .i64 0, .int .i64 0, .int .i64 0]), (2, .agg #[.string ⟨#[98, 111, 111, 108]⟩, .int .i64 6, .int .i64 0, .int .i64 0, .int .i64 0]), (3, .agg #[.string ⟨#[118, 97, 114]⟩, .int .i64 2, .int .i64 0, .int .i64 0, .int .i64 0]), (4, .agg #[.string ⟨#[108, 101, 110]⟩, .int .i64 1, .int .i64 0, .int .i64 0, .int .i64 0]), (5, .agg #[.string ⟨#[99, 97, 112]⟩, .int .i64 1, .int .i64 0, .int .i64 0, .int .i64 0]), (6, .agg #[.string ⟨#[115, 105, 122, 101]⟩, .int .i64 0, .int .i64 0, .int .i64 0, .int .i64 0]), (7, .agg #[.string ⟨#[116, 111, 116, 97, 108]⟩, .int .i64 0, .int .i64 0, .int .i64 0, .int .i64 0]), (8, .agg #[.string ⟨#[97, 116]⟩, .int .i64 1, .int .i64 0, .int .i64 0, .int .i64 0]), (9, .agg #[.string ⟨#[116, 97, 103, 120]⟩, .int .i64 3, .int .i64 0, .int .i64 0, .int .i64 0]), (10, .agg #[.string ⟨#[116, 97, 103, 101, 110, 100]⟩, .int .i64 1, .int .i64 4, .int .i64 3, .int .i64 0]), (11, .agg #[.string ⟨#[109, 105, 110]⟩, .int .i64 0, .int .i64 0, .int .i64 0, .int .i64 0]), (12, .agg #[.string ⟨#[109, 97, 120]⟩, .int .i64 0, .int .i64 0, .int .i64 0, .int .i64 0]), (13, .agg #[.string ⟨#[110, 101, 103]⟩, .int .i64 0, .int .i64 0, .int .i64 0, .int .i64 0]), (14, .agg #[.string ⟨#[110, 111, 116]⟩, .int .i64 0, .int .i64 0, .int .i64 0, .int .i64 0]), (15, .agg #[.string ⟨#[109, 117, 108]⟩, .int .i64 0, .int .i64 0, .int .i64 0, .int .i64 0]), (16, .agg #[.string ⟨#[100, 105, 118]⟩, .int .i64 0, .int .i64 0, .int .i64 0, .int .i64 0]), (17, .agg #[.string ⟨#[97, 100, 100]⟩, .int .i64 0, .int .i64 0, .int .i64 0, .int .i64 0]), (18, .agg #[.string ⟨#[115, 117, 98]⟩, .int .i64 0, .int .i64 0, .int .i64 0, .int .i64 0]), (19, .agg #[.string ⟨#[101, 113]⟩, .int .i64 0, .int .i64 0, .int .i64 0, .int .i64 0]), (20, .agg #[.string ⟨#[108, 116]⟩, .int .i64 0, .int .i64 0, .int .i64 0, .int .i64 0]), (21, .agg #[.string ⟨#[108, 101]⟩, .int .i64 0, .int .i64 0, .int .i64 0, .int .i64 0]), (22, .agg #[.string ⟨#[106, 117, 109, 112]⟩, .int .i64 8, .int .i64 0, .int .i64 0, .int .i64 0]), (23, .agg #[.string ⟨#[101, 108, 115, 101]⟩, .int .i64 8, .int .i64 0, .int .i64 0, .int .i64 0]), (24, .agg #[.string ⟨#[108, 111, 111, 112]⟩, .int .i64 7, .int .i64 0, .int .i64 0, .int .i64 0]), (25, .agg #[.string ⟨#[116, 117, 114, 110]⟩, .int .i64 8, .int .i64 0, .int .i64 0, .int .i64 0]), (26, .agg #[.string ⟨#[113, 117, 105, 116]⟩, .int .i64 8, .int .i64 0, .int .i64 0, .int .i64 0]), (27, .agg #[.string ⟨#[97, 103, 97, 105, 110]⟩, .int .i64 8, .int .i64 0, .int .i64 0, .int .i64 0]), (28, .agg #[.string ⟨#[115, 101, 116]⟩, .int .i64 2, .int .i64 0, .int .i64 0, .int .i64 0]), (29, .agg #[.string ⟨#[109, 97, 114, 107, 120]⟩, .int .i64 3, .int .i64 0, .int .i64 0, .int .i64 0]), (30, .agg #[.string ⟨#[109, 97, 114, 107, 101, 110, 100]⟩, .int .i64 1, .int .i64 4, .int .i64 3, .int .i64 0]), (31, .agg #[.string ⟨#[105, 110, 115, 101, 114, 116]⟩, .int .i64 1, .int .i64 4, .int .i64 0, .int .i64 0]), (32, .agg #[.string ⟨#[109, 111, 118, 101]⟩, .int .i64 1, .int .i64 4, .int .i64 0, .int .i64 0]), (33, .agg #[.string ⟨#[102, 111, 114, 103, 101, 116]⟩, .int .i64 0, .int .i64 0, .int .i64 0, .int .i64 0]), (34, .agg #[.string ⟨#[116, 97, 107, 101]⟩, .int .i64 1, .int .i64 4, .int .i64 0, .int .i64 0]), (35, .agg #[.string ⟨#[103, 105, 118, 101]⟩, .int .i64 1, .int .i64 4, .int .i64 0, .int .i64 0]), (36, .agg #[.string ⟨#[116, 101, 108, 108]⟩, .int .i64 0, .int .i64 0, .int .i64 0, .int .i64 0]), (37, .agg #[.string ⟨#[108, 111, 111, 115, 101]⟩, .int .i64 0, .int .i64 0, .int .i64 0, .int .i64 0]), (38, .agg #[.string ⟨#[115, 104, 105, 102, 116]⟩, .int .i64 1, .int .i64 4, .int .i64 1, .int .i64 4]), (39, .agg #[.string ⟨#[115, 112, 105, 108, 108]⟩, .int .i64 1, .int .i64 4, .int .i64 1, .int .i64 4]), (40, .agg #[.string ⟨#[101, 118, 105, 99, 116]⟩, .int .i64 1, .int .i64 4, .int .i64 0, .int .i64 0]), (41, .agg #[.string ⟨#[100, 114, 111, 112]⟩, .int .i64 1, .int .i64 4, .int .i64 0, .int .i64 0])]
set_option maxRecDepth 100000 in
theorem table_build (w : World) : (Instr.buildSlice 112 42 tblParts).run Try.prog w = .ok (.slice (some ⟨w.heap.size, 0, none⟩) 42 42) (w.alloc (.cells tblC.toArray 118)) := by
  simp [Instr.buildSlice, go_sem]
  generalize hF : Instr.fill _ _ tblParts.toList = F
  have hF2 : F = some tblC.toArray := by
    rw [← hF]
    kernel_rfl
  clear hF
  subst hF2
  generalize tblC.toArray = C
  simp [go_sem]
theorem wp_build42 {a : Act} {w : World} {o : Oper} {K : Act → World → Prop} {Q : Exit → Act → World → Prop} (ps : Array (Nat × Operand)) (hop : o.op = .buildSlice 112 42 ps) (hev : (ps.map fun x => (x.1, a.eval x.2)) = tblParts)
    (hK : K (a.put o.dst (.slice (some ⟨w.heap.size, 0, none⟩) 42 42)) (w.alloc (.cells tblC.toArray 118))) : o.wp Try.prog a w K Q := by
  have hb := table_build w
  rw [← hev] at hb
  unfold Oper.wp
  simp [execOp, hop, hb, Result.andThen]
  exact hK
theorem row_0 (w : World) (s : ByteArray) : Calls Try.prog 76 #[.string s, .slice none 0 0] w fun en w' => en = .returned (.agg #[.string s, .int .i64 0, .int .i64 0, .int .i64 0, .int .i64 0]) ∧ Below w.heap.size w w' :=
  row_i w s none 0 0 [] (fun h => absurd h (by omega)) rfl (by omega)
theorem row_1 (w : World) (s : ByteArray) (x0 : Int) : Calls Try.prog 76 #[.string s, .slice (some ⟨w.heap.size, 0, none⟩) 1 1] (w.alloc (.cells #[.int .i64 x0] 3)) fun en w' => en = .returned (.agg #[.string s, .int .i64 x0, .int .i64 0, .int .i64 0, .int .i64 0]) ∧ Below w.heap.size w w' := by
  have hb : Below w.heap.size w (w.alloc (.cells #[.int .i64 x0] 3)) := (Below.refl _ w).alloc (Nat.le_refl _) _
  have hk := Blk.new w 3 #[.int .i64 x0]
  refine (row_i _ s (some ⟨w.heap.size, 0, none⟩) 1 1 [x0] (fun _ => ⟨_, rfl, hk.lt, fun j v hj => ?_⟩) rfl (by omega)).mono ?_
  · have e : (⟨w.heap.size, 0, none⟩ : Addr).add j = ⟨w.heap.size, j, none⟩ := by cases j <;> simp [Addr.add]
    rw [e, hk.cell]
    simpa [ints] using hj
  · rintro en w' ⟨rfl, hb'⟩
    exact ⟨rfl, hb.trans (hb'.mono (by simp))⟩
theorem row_2 (w : World) (s : ByteArray) (x0 x1 : Int) : Calls Try.prog 76 #[.string s, .slice (some ⟨w.heap.size, 0, none⟩) 2 2] (w.alloc (.cells #[.int .i64 x0, .int .i64 x1] 3)) fun en w' => en = .returned (.agg #[.string s, .int .i64 x0, .int .i64 x1, .int .i64 0, .int .i64 0]) ∧ Below w.heap.size w w' := by
  have hb : Below w.heap.size w (w.alloc (.cells #[.int .i64 x0, .int .i64 x1] 3)) := (Below.refl _ w).alloc (Nat.le_refl _) _
  have hk := Blk.new w 3 #[.int .i64 x0, .int .i64 x1]
  refine (row_i _ s (some ⟨w.heap.size, 0, none⟩) 2 2 [x0, x1] (fun _ => ⟨_, rfl, hk.lt, fun j v hj => ?_⟩) rfl (by omega)).mono ?_
  · have e : (⟨w.heap.size, 0, none⟩ : Addr).add j = ⟨w.heap.size, j, none⟩ := by cases j <;> simp [Addr.add]
    rw [e, hk.cell]
    simpa [ints] using hj
  · rintro en w' ⟨rfl, hb'⟩
    exact ⟨rfl, hb.trans (hb'.mono (by simp))⟩
theorem row_3 (w : World) (s : ByteArray) (x0 x1 x2 : Int) : Calls Try.prog 76 #[.string s, .slice (some ⟨w.heap.size, 0, none⟩) 3 3] (w.alloc (.cells #[.int .i64 x0, .int .i64 x1, .int .i64 x2] 3)) fun en w' => en = .returned (.agg #[.string s, .int .i64 x0, .int .i64 x1, .int .i64 x2, .int .i64 0]) ∧ Below w.heap.size w w' := by
  have hb : Below w.heap.size w (w.alloc (.cells #[.int .i64 x0, .int .i64 x1, .int .i64 x2] 3)) := (Below.refl _ w).alloc (Nat.le_refl _) _
  have hk := Blk.new w 3 #[.int .i64 x0, .int .i64 x1, .int .i64 x2]
  refine (row_i _ s (some ⟨w.heap.size, 0, none⟩) 3 3 [x0, x1, x2] (fun _ => ⟨_, rfl, hk.lt, fun j v hj => ?_⟩) rfl (by omega)).mono ?_
  · have e : (⟨w.heap.size, 0, none⟩ : Addr).add j = ⟨w.heap.size, j, none⟩ := by cases j <;> simp [Addr.add]
    rw [e, hk.cell]
    simpa [ints] using hj
  · rintro en w' ⟨rfl, hb'⟩
    exact ⟨rfl, hb.trans (hb'.mono (by simp))⟩
theorem row_4 (w : World) (s : ByteArray) (x0 x1 x2 x3 : Int) : Calls Try.prog 76 #[.string s, .slice (some ⟨w.heap.size, 0, none⟩) 4 4] (w.alloc (.cells #[.int .i64 x0, .int .i64 x1, .int .i64 x2, .int .i64 x3] 3)) fun en w' => en = .returned (.agg #[.string s, .int .i64 x0, .int .i64 x1, .int .i64 x2, .int .i64 x3]) ∧ Below w.heap.size w w' := by
  have hb : Below w.heap.size w (w.alloc (.cells #[.int .i64 x0, .int .i64 x1, .int .i64 x2, .int .i64 x3] 3)) := (Below.refl _ w).alloc (Nat.le_refl _) _
  have hk := Blk.new w 3 #[.int .i64 x0, .int .i64 x1, .int .i64 x2, .int .i64 x3]
  refine (row_i _ s (some ⟨w.heap.size, 0, none⟩) 4 4 [x0, x1, x2, x3] (fun _ => ⟨_, rfl, hk.lt, fun j v hj => ?_⟩) rfl (by omega)).mono ?_
  · have e : (⟨w.heap.size, 0, none⟩ : Addr).add j = ⟨w.heap.size, j, none⟩ := by cases j <;> simp [Addr.add]
    rw [e, hk.cell]
    simpa [ints] using hj
  · rintro en w' ⟨rfl, hb'⟩
    exact ⟨rfl, hb.trans (hb'.mono (by simp))⟩
set_option maxRecDepth 100000 in
set_option maxHeartbeats 40000000 in
theorem table_i (w : World) : Calls Try.prog 56 #[] w fun en w' => ∃ g, en = .returned (.slice (some ⟨g, 0, none⟩) 42 42) ∧ Blk w' g 118 tblC.toArray ∧ w.heap.size ≤ g ∧ Below w.heap.size w w' := by
  have HB := hide (Below.refl w.heap.size w)
  go_enter Try.func56, Try.ntmps56
  go_wp2_with (first
               | (go_at_call 76
                  with_reducible refine (row_0 _ _).mono ?_
                  rintro en w1 ⟨rfl, hb⟩
                  replace HB := hide (HB.out.trans (hb.mono HB.out.size))
                  clear hb)
               | (go_at_call 76
                  with_reducible refine (row_1 _ _ _).mono ?_
                  rintro en w1 ⟨rfl, hb⟩
                  replace HB := hide (HB.out.trans (hb.mono HB.out.size))
                  clear hb)
               | (go_at_call 76
                  with_reducible refine (row_2 _ _ _ _).mono ?_
                  rintro en w1 ⟨rfl, hb⟩
                  replace HB := hide (HB.out.trans (hb.mono HB.out.size))
                  clear hb)
               | (go_at_call 76
                  with_reducible refine (row_3 _ _ _ _ _).mono ?_
                  rintro en w1 ⟨rfl, hb⟩
                  replace HB := hide (HB.out.trans (hb.mono HB.out.size))
                  clear hb)
               | (go_at_call 76
                  with_reducible refine (row_4 _ _ _ _ _ _).mono ?_
                  rintro en w1 ⟨rfl, hb⟩
                  replace HB := hide (HB.out.trans (hb.mono HB.out.size))
                  clear hb))
  refine wp_build42 _ rfl ?_ ?_
  · kernel_rfl
  go_at_K
  go_wp2_with fail
  go_ret
  exact ⟨w1.heap.size, rfl, Blk.new _ _ _, HB.out.size, HB.out.alloc HB.out.size _⟩
end Go.Proofs.Ytjflllfkgbhemaa
