/- A program in memory; the walk of 'tables'. Conditions: the program lies in memory. -/
import Derived.Test.YtjflllfkgbhemaaV2
import Derived.Deep.CutBlock
import Derived.Deep.DeepCutAuto
namespace Go.Proofs.Ytjflllfkgbhemaa
open Go.RowKit

structure Vr where
  (init lo hi : Int)
structure Ins where
  (op a b c d : Int)
/-- a program, as lists -/
structure Prg where
  gh : List Bool
  vs : List Vr
  ts : List Int
  os : List Int
  miss : Int
  cd : List Ins

/-- a row of cells at a slice's address: f tells what lies at each index -/
def At (w : World) (oa : Option Addr) (k : Nat) (v : Value) : Prop := ∃ g, oa = some ⟨g, 0, none⟩ ∧ g < w.heap.size ∧ w.cell? ⟨g, k, none⟩ = some v
theorem At.below {w w' : World} {oa : Option Addr} {k : Nat} {v : Value} (h : At w oa k v) (hb : Below w.heap.size w w') : At w' oa k v := by
  obtain ⟨g, rfl, hg, hc⟩ := h
  exact ⟨g, rfl, Nat.lt_of_lt_of_le hg hb.size, (hb.cell (by exact hg)).trans hc⟩

/-- the program P lies behind the slices p -/
structure PMem (w : World) (p : PV) (P : Prg) : Prop where
  gl : p.gl = P.gh.length
  vl : p.vl = P.vs.length
  tl : p.tl = P.ts.length
  ol : p.ol = P.os.length
  cl : p.cl = P.cd.length
  miss : p.miss = P.miss
  g : ∀ i x, P.gh[i]? = some x → At w p.ga i (.bool x)
  v : ∀ i x, P.vs[i]? = some x → At w p.va (i * 3) (.int .i64 x.init) ∧ At w p.va (i * 3 + 1) (.int .i64 x.lo) ∧ At w p.va (i * 3 + 2) (.int .i64 x.hi)
  t : ∀ i x, P.ts[i]? = some x → At w p.ta i (.int .i64 x)
  o : ∀ i x, P.os[i]? = some x → At w p.oa i (.int .i64 x)
  c : ∀ i x, P.cd[i]? = some x → At w p.ca (i * 5) (.int .i64 x.op) ∧ At w p.ca (i * 5 + 1) (.int .i64 x.a) ∧ At w p.ca (i * 5 + 2) (.int .i64 x.b) ∧ At w p.ca (i * 5 + 3) (.int .i64 x.c) ∧ At w p.ca (i * 5 + 4) (.int .i64 x.d)
  lens : p.gl ≤ maxLen ∧ p.vl ≤ maxLen ∧ p.tl ≤ maxLen ∧ p.ol ≤ maxLen ∧ p.cl ≤ maxLen
theorem PMem.below {w w' : World} {p : PV} {P : Prg} (h : PMem w p P) (hb : Below w.heap.size w w') : PMem w' p P :=
  ⟨h.gl, h.vl, h.tl, h.ol, h.cl, h.miss, fun i x hx => (h.g i x hx).below hb, fun i x hx => ⟨(h.v i x hx).1.below hb, (h.v i x hx).2.1.below hb, (h.v i x hx).2.2.below hb⟩, fun i x hx => (h.t i x hx).below hb, fun i x hx => (h.o i x hx).below hb,
    fun i x hx => ⟨(h.c i x hx).1.below hb, (h.c i x hx).2.1.below hb, (h.c i x hx).2.2.1.below hb, (h.c i x hx).2.2.2.1.below hb, (h.c i x hx).2.2.2.2.below hb⟩, h.lens⟩

def vrOk (v : Vr) : Bool := decide (v.lo ≤ v.init) && decide (v.init ≤ v.hi) && decide (-1073741824 ≤ v.lo) && decide (v.hi ≤ 1073741824)
/-- what 'tables' tells -/
def tablesV (P : Prg) : Bool :=
  decide (P.gh.length ≤ 16) && decide (P.vs.length ≤ 16) && decide (P.ts.length ≤ 4) && decide (P.os.length = P.gh.length) && decide (P.cd.length ≤ 262144) &&
    P.vs.all vrOk && P.ts.all (fun t => fromV t 1 255) && P.os.all (fun a => fromV a (-1) ((P.cd.length : Int) - 1)) && fromV P.miss (-1) ((P.cd.length : Int) - 1)

theorem all_take_succ {α : Type} {l : List α} {p : α → Bool} {i : Nat} {x : α} (hx : l[i]? = some x) (h : (l.take i).all p = true) (hp : p x = true) : (l.take (i + 1)).all p = true := by
  rw [List.take_add_one, hx]
  simp [h, hp]
theorem all_false {α : Type} {l : List α} {p : α → Bool} {i : Nat} {x : α} (hx : l[i]? = some x) (hp : p x = false) : l.all p = false := by
  rw [List.all_eq_false]
  exact ⟨x, List.mem_of_getElem? hx, by simp [hp]⟩
theorem vrOk_iff (v : Vr) : vrOk v = true ↔ (v.lo ≤ v.init ∧ v.init ≤ v.hi ∧ -1073741824 ≤ v.lo ∧ v.hi ≤ 1073741824) := by
  simp [vrOk, and_assoc]
set_option maxRecDepth 100000 in
set_option maxHeartbeats 4000000 in
theorem tables_i (w : World) (p : PV) (P : Prg) (h : PMem w p P) : Calls Try.prog 41 #[p.val] w fun en w' => en = .returned (.bool (tablesV P)) ∧ Below w.heap.size w w' := by
  have HM := hide h
  obtain ⟨e1, e2, e3, e4, e5, e6, _, _, _, _, _, l1, l2, l3, l4, l5⟩ := h
  obtain ⟨ga, va, ta, oa, ca, gl, gc, vl, vc, tl, tc, ol, oc, cl, cc, miss⟩ := p
  simp only at e1 e2 e3 e4 e5 e6
  subst e1 e2 e3 e4 e5 e6
  simp only [PV.val] at *
  unfold maxLen at *
  by_cases hd : P.gh.length ≤ 16 ∧ P.vs.length ≤ 16 ∧ P.ts.length ≤ 4 ∧ P.os.length = P.gh.length ∧ P.cd.length ≤ 262144
  · obtain ⟨d1, d2, d3, d4, d5⟩ := hd
    have hT : tablesV P = (P.vs.all vrOk && P.ts.all (fun t => fromV t 1 255) && P.os.all (fun a => fromV a (-1) ((P.cd.length : Int) - 1)) && fromV P.miss (-1) ((P.cd.length : Int) - 1)) := by simp [tablesV, d1, d2, d3, d4, d5]
    have HT := hide hT
    have hW1 : Below w.heap.size w (w.alloc (.cells #[.slice ga P.gh.length gc, .slice va P.vs.length vc, .slice ta P.ts.length tc, .slice oa P.gh.length oc, .int .i64 P.miss, .slice ca P.cd.length cc] 28)) := (Below.refl _ w).alloc (Nat.le_refl _) _
    have hk1 := Blk.new w 28 #[.slice ga P.gh.length gc, .slice va P.vs.length vc, .slice ta P.ts.length tc, .slice oa P.gh.length oc, .int .i64 P.miss, .slice ca P.cd.length cc]
    have HW1 := hide hW1
    have HK1 := hide hk1
    clear hT hW1 hk1
    rw [d4]
    go_enter Try.func41, Try.ntmps41
    go_wp2
    go_loopw [43] (fun tx W => ∃ i : Nat, tx = .int .i64 (i : Int) ∧ i ≤ P.vs.length ∧ (P.vs.take i).all vrOk = true ∧ Below w.heap.size w W ∧ Blk W w.heap.size 28 #[.slice ga P.gh.length gc, .slice va P.vs.length vc, .slice ta P.ts.length tc, .slice oa P.gh.length oc, .int .i64 P.miss, .slice ca P.cd.length cc]) (fun tx _ => P.vs.length - (intOf tx).toNat)
    case atStart => exact ⟨0, rfl, Nat.zero_le _, by simp, HW1.out, HK1.out⟩
    case round =>
      obtain ⟨i, rfl, hi, hall, hB, hk⟩ := hrel
      rename World => W
      have HA := hide hall
      have HB := hide hB
      have HK := hide hk
      by_cases hlt : i < P.vs.length
      · obtain ⟨x, hx⟩ : ∃ x, P.vs[i]? = some x := ⟨_, List.getElem?_eq_getElem hlt⟩
        obtain ⟨⟨g, hg, hgl, q0⟩, ⟨_, hg1, _, q1⟩, ⟨_, hg2, _, q2⟩⟩ := (HM.out.below hB).v i x hx
        simp only at hg hg1 hg2
        subst hg
        cases hg1
        cases hg2
        obtain ⟨x0, x1, x2⟩ := x
        simp only at q0 q1 q2
        have HX := hide hx
        have hvo := vrOk_iff ⟨x0, x1, x2⟩
        simp only at hvo
        clear hall hB hk hx hgl
        by_cases hv : x1 ≤ x0 ∧ x0 ≤ x2 ∧ -1073741824 ≤ x1 ∧ x2 ≤ 1073741824
        · have hvt := hvo.2 hv
          have HVT := hide hvt
          obtain ⟨v1, v2, v3, v4⟩ := hv
          clear hvo hvt
          go_wp2
          go_roundw
          case rel =>
            refine ⟨i + 1, by go_num, by omega, all_take_succ HX.out HA.out HVT.out, HB.out.alloc HB.out.size _, HK.out.alloc _⟩
          case measure => simp [intOf]; omega
        · have hvf : vrOk ⟨x0, x1, x2⟩ = false := by
            cases hq : vrOk ⟨x0, x1, x2⟩ with
            | false => rfl
            | true => exact (hv (hvo.1 hq)).elim
          have hTf : tablesV P = false := by rw [HT.out, all_false HX.out hvf]; simp
          have HTF := hide hTf
          have HV := hide hv
          clear hvo hvf hTf hv
          go_wp2
          all_goals
            first
            | (exfalso; have := HV.out; omega)
            | (go_ret
               exact ⟨by rw [HTF.out]; rfl, HB.out.alloc HB.out.size _⟩)
      · have he : i = P.vs.length := by omega
        have hall2 : P.vs.all vrOk = true := by rw [he, List.take_of_length_le (Nat.le_refl _)] at hall; exact hall
        have HA2 := hide hall2
        have p2 : W.cell? ⟨w.heap.size, 2, none⟩ = some (.slice ta P.ts.length tc) := by rw [hk.cell]; rfl
        clear hall hB hk hall2
        go_wp2
        go_loopw [73] (fun tx W' => ∃ i : Nat, tx = .int .i64 (i : Int) ∧ i ≤ P.ts.length ∧ (P.ts.take i).all (fun t => fromV t 1 255) = true ∧ Below w.heap.size w W' ∧ Blk W' w.heap.size 28 #[.slice ga P.gh.length gc, .slice va P.vs.length vc, .slice ta P.ts.length tc, .slice oa P.gh.length oc, .int .i64 P.miss, .slice ca P.cd.length cc]) (fun tx _ => P.ts.length - (intOf tx).toNat)
        case atStart => exact ⟨0, rfl, Nat.zero_le _, by simp, HB.out, HK.out⟩
        case round =>
          clear HA HB HK p2 hlt he
          obtain ⟨j, rfl, hj, hall, hB, hk⟩ := hrel
          rename World => W'
          have HA := hide hall
          have HB := hide hB
          have HK := hide hk
          by_cases hlt : j < P.ts.length
          · obtain ⟨x, hx⟩ : ∃ x, P.ts[j]? = some x := ⟨_, List.getElem?_eq_getElem (by omega)⟩
            obtain ⟨g, hg, hgl, q0⟩ := (HM.out.below hB).t j x hx
            simp only at hg
            subst hg
            have HX := hide hx
            have p5 : W'.cell? ⟨w.heap.size, 5, none⟩ = some (.slice ca P.cd.length cc) := by rw [hk.cell]; rfl
            clear hall hB hk hx hgl
            cases hv : fromV x 1 255 with
            | true =>
              have HV := hide hv
              go_wp2_with (go_at_call 44
                           refine (from_i _ _ _ _).mono ?_
                           rintro en w' ⟨rfl, rfl⟩)
              go_roundw
              case rel => exact ⟨j + 1, by go_num, by omega, all_take_succ HX.out HA.out HV.out, HB.out, HK.out⟩
              case measure => simp [intOf]; omega
            | false =>
              have hTf : tablesV P = false := by
                rw [HT.out, all_false (p := fun t => fromV t 1 255) HX.out hv]; simp
              have HTF := hide hTf
              clear hTf
              go_wp2_with (go_at_call 44
                           refine (from_i _ _ _ _).mono ?_
                           rintro en w' ⟨rfl, rfl⟩)
              go_ret
              exact ⟨by rw [HTF.out]; rfl, HB.out⟩
          · have he : j = P.ts.length := by omega
            have hall2 : P.ts.all (fun t => fromV t 1 255) = true := by rw [he, List.take_of_length_le (Nat.le_refl _)] at hall; exact hall
            have HA3 := hide hall2
            have p3 : W'.cell? ⟨w.heap.size, 3, none⟩ = some (.slice oa P.gh.length oc) := by rw [hk.cell]; rfl
            have p4 : W'.cell? ⟨w.heap.size, 4, none⟩ = some (.int .i64 P.miss) := by rw [hk.cell]; rfl
            have p5 : W'.cell? ⟨w.heap.size, 5, none⟩ = some (.slice ca P.cd.length cc) := by rw [hk.cell]; rfl
            clear hall hB hk hall2
            go_wp2
            go_loopw [84] (fun tx W' => ∃ i : Nat, tx = .int .i64 (i : Int) ∧ i ≤ P.os.length ∧ (P.os.take i).all (fun t => fromV t (-1) ((P.cd.length : Int) - 1)) = true ∧ Below w.heap.size w W' ∧ Blk W' w.heap.size 28 #[.slice ga P.gh.length gc, .slice va P.vs.length vc, .slice ta P.ts.length tc, .slice oa P.gh.length oc, .int .i64 P.miss, .slice ca P.cd.length cc]) (fun tx _ => P.os.length - (intOf tx).toNat)
            case atStart => exact ⟨0, rfl, Nat.zero_le _, by simp, HB.out, HK.out⟩
            case round =>
              clear HA HB HK p3 p4 p5 hlt he
              obtain ⟨j, rfl, hj, hall, hB, hk⟩ := hrel
              rename World => W'
              have HA := hide hall
              have HB := hide hB
              have HK := hide hk
              by_cases hlt : j < P.gh.length
              · obtain ⟨x, hx⟩ : ∃ x, P.os[j]? = some x := ⟨_, List.getElem?_eq_getElem (by omega)⟩
                obtain ⟨g, hg, hgl, q0⟩ := (HM.out.below hB).o j x hx
                simp only at hg
                subst hg
                have HX := hide hx
                have p5 : W'.cell? ⟨w.heap.size, 5, none⟩ = some (.slice ca P.cd.length cc) := by rw [hk.cell]; rfl
                clear hall hB hk hx hgl
                cases hv : fromV x (-1) ((P.cd.length : Int) - 1) with
                | true =>
                  have HV := hide hv
                  go_wp2_with (go_at_call 44
                               refine (from_i _ _ _ _).mono ?_
                               rintro en w' ⟨rfl, rfl⟩)
                  go_roundw
                  case rel => exact ⟨j + 1, by go_num, by omega, all_take_succ HX.out HA.out HV.out, HB.out, HK.out⟩
                  case measure => simp [intOf]; omega
                | false =>
                  have hTf : tablesV P = false := by
                    rw [HT.out, all_false (p := fun t => fromV t (-1) ((P.cd.length : Int) - 1)) HX.out hv]; simp
                  have HTF := hide hTf
                  clear hTf
                  go_wp2_with (go_at_call 44
                               refine (from_i _ _ _ _).mono ?_
                               rintro en w' ⟨rfl, rfl⟩)
                  go_ret
                  exact ⟨by rw [HTF.out]; rfl, HB.out⟩
              · have he : j = P.os.length := by omega
                have hall2 : P.os.all (fun t => fromV t (-1) ((P.cd.length : Int) - 1)) = true := by rw [he, List.take_of_length_le (Nat.le_refl _)] at hall; exact hall
                have HA4 := hide hall2
                have p3 : W'.cell? ⟨w.heap.size, 3, none⟩ = some (.slice oa P.gh.length oc) := by rw [hk.cell]; rfl
                have p4 : W'.cell? ⟨w.heap.size, 4, none⟩ = some (.int .i64 P.miss) := by rw [hk.cell]; rfl
                have p5 : W'.cell? ⟨w.heap.size, 5, none⟩ = some (.slice ca P.cd.length cc) := by rw [hk.cell]; rfl
                clear hall hB hk hall2
                go_wp2_with (go_at_call 44
                             refine (from_i _ _ _ _).mono ?_
                             rintro en w' ⟨rfl, rfl⟩)
                go_ret
                refine ⟨?_, HB.out⟩
                rw [HT.out, HA2.out, HA3.out, HA4.out]
                rfl
  · have hTf : tablesV P = false := by
      unfold tablesV
      by_cases d1 : P.gh.length ≤ 16 <;> by_cases d2 : P.vs.length ≤ 16 <;> by_cases d3 : P.ts.length ≤ 4 <;> by_cases d4 : P.os.length = P.gh.length <;> by_cases d5 : P.cd.length ≤ 262144 <;> simp [d1, d2, d3, d4, d5]
      exact (hd ⟨d1, d2, d3, d4, d5⟩).elim
    have HD := hide hd
    have HTF := hide hTf
    clear hd hTf
    go_enter Try.func41, Try.ntmps41
    go_wp2
    all_goals
      first
      | (exfalso; have := HD.out; omega)
      | (go_ret
         exact ⟨by rw [HTF.out]; rfl, (Below.refl _ w).alloc (Nat.le_refl _) _⟩)
end Go.Proofs.Ytjflllfkgbhemaa
