/- The walk of the law's 'alike'. Conditions: both arenas hold the same. -/
import Derived.Test.YtbjmmfoklnhiiaaW19
namespace Go.Proofs.Ytbjmmfoklnhiiaa
open Go.RowKit
section
variable {w0 n l : Nat} {w w' : World} {T : Nat → Option (ASt Int)} {ab : Nat} {s : ASt Int}
theorem Ars.nodes (h : Ars w0 w n l T) (ht : T ab = some s) (i e : Int) (xs : List (Nat × Int)) (hx : Told s i e xs) (hm : s.made ≤ 4194304) :
    Calls Try.prog 26 #[.pointer (some ⟨ab, 0, none⟩), .int .i64 i, .int .i64 e] w fun en w' => ∃ v, en = .returned v ∧ Vw w' v (xs.map fun x => (x.1 : Int)) ∧ Below w.heap.size w w' := by
  obtain ⟨f, hL⟩ := h.get ht
  rw [← hL.ab]
  exact nodes_v w f s hL.mem i e xs hx hm
theorem Ars.get_ (h : Ars w0 w n l T) (ht : T ab = some s) (k : Int) : Calls Try.prog 29 #[.pointer (some ⟨ab, 0, none⟩), .int .i64 k] w fun en w' => en = .returned (.tuple #[.int .i64 (s.get 0 k), .int .i64 (s.holds k)]) ∧ w = w' := by
  obtain ⟨f, hL⟩ := h.get ht
  rw [← hL.ab]
  exact get_i w f s hL.mem k
theorem Ars.bd (h : Ars w0 w n l T) (ht : T ab = some s) : s.Bd ∧ s.most = n ∧ s.L = l ∧ ∃ A, Rep s A := by
  obtain ⟨f, hL⟩ := h.get ht
  obtain ⟨A, hr, h1, h2⟩ := hL.rep
  exact ⟨hr.bd, hr.most.trans (by rw [h1]), hr.ch.len.trans h2, A, hr⟩
theorem Ars.free_ (h : Ars w0 w n l T) (ht : T ab = some s) : Calls Try.prog 20 #[.pointer (some ⟨ab, 0, none⟩)] w fun en w' => en = .returned (.int .i64 ((n : Int) - s.used)) ∧ ∃ q, w' = w.drewN q := by
  obtain ⟨f, hL⟩ := h.get ht
  obtain ⟨hb, hm, _⟩ := h.bd ht
  have := free_n_i w f s hL.mem hb.u0 (by have := hb.um; have := hb.mm; omega) hb.m22
  rw [hL.ab, hm] at this
  exact this
theorem Ars.push (h : Ars w0 w n l T) (h0 : w0 ≤ w.heap.size) (ht : T ab = some s) (i e v : Int) :
    Calls Try.prog 25 #[.pointer (some ⟨ab, 0, none⟩), .int .i64 i, .int .i64 e, .int .i64 v] w fun en w' => en = .returned (.tuple #[.int .i64 (s.pushR i e), .int .i64 (s.pushE i e)]) ∧
      Ars w0 w' n l (upd T ab (some (s.push 0 i e v))) ∧ Below w0 w w' := by
  obtain ⟨f, hL, hop⟩ := h.op h0 ht
  obtain ⟨A, hr, e1, e2⟩ := hL.rep
  obtain ⟨B, hB, l1, l2⟩ := hr.push_ 0 v i e
  have := push_i w f s hL.mem hr.bd i e v
  rw [hL.ab] at this
  refine this.mono ?_
  rintro en w' ⟨he, g', hM, hO, hv⟩
  exact ⟨he, hop w' _ _ hM ⟨B, hB, by omega, by omega⟩ hO ⟨hL.ab.symm, rfl, hv⟩⟩

theorem upd_pair {α : Type} (T : Nat → α) (a b : Nat) (x y x' y' : α) : upd (upd (upd (upd T a x) b y) a x') b y' = upd (upd T a x') b y' := by
  funext k
  simp only [upd]
  by_cases h1 : k = b
  · simp [h1]
  · by_cases h2 : k = a <;> simp [h1, h2]
theorem upd_self2 {α : Type} {T : Nat → α} {a b : Nat} {x y : α} (ha : T a = x) (hb : T b = y) : upd (upd T a x) b y = T := by
  funext k
  simp only [upd]
  by_cases h1 : k = b
  · simp [h1, hb]
  · by_cases h2 : k = a
    · subst h2; simp [h1, ha]
    · simp [h1, h2]
theorem push_used {s : ASt Int} (hE : s.pushE 0 0 = 0) (v : Int) : (s.push 0 0 0 v).used = s.used + 1 := by
  unfold ASt.push
  rw [if_pos hE]
  rfl

set_option maxRecDepth 100000 in
set_option maxHeartbeats 4000000 in
theorem alike_i (h : Ars w0 w n l T) (h0 : w0 ≤ w.heap.size) {a b : Nat} (hab : a ≠ b) (ha : T a = some s) (hb : T b = some s) (hn : n ≤ 2000) :
    Calls Try.prog 30 #[.pointer (some ⟨a, 0, none⟩), .pointer (some ⟨b, 0, none⟩), .int .i64 n, .int .i64 l] w fun en w' => en = .returned (.bool true) ∧
      (∃ s', Ars w0 w' n l (upd (upd T a (some s')) b (some s'))) ∧ Below w0 w w' := by
  obtain ⟨hbd, hmost, hlen, A, hr⟩ := h.bd ha
  have hl256 : l ≤ 256 := by have := hbd.l256; omega
  have hm22 : s.made ≤ 4194304 := by have := hbd.mm; have := hbd.m22; omega
  have hND : ∀ (W : World) (x : Nat), Below w.heap.size w W → T x = some s → ∀ i : Nat, Calls Try.prog 26 #[.pointer (some ⟨x, 0, none⟩), .int .i64 (i : Int), .int .i64 0] W fun en w' => ∃ v, en = .returned v ∧ Vw w' v ((A.tell i 0).map fun x => (x.1 : Int)) ∧ Below W.heap.size W w' := by
    intro W x hB hx i
    exact (h.below hB).nodes hx i 0 _ (hr.told i 0) hm22
  have hlt : ∀ i : Nat, ((A.tell i 0).map fun x => (x.1 : Int)).length ≤ 4194304 := by
    intro i
    have := (hr.told i 0).short
    simp
    omega
  have hGT : ∀ (W : World) (x : Nat), Below w.heap.size w W → T x = some s → ∀ i : Nat, Calls Try.prog 29 #[.pointer (some ⟨x, 0, none⟩), .int .i64 (i : Int)] W fun en w' => en = .returned (.tuple #[.int .i64 (s.get 0 i), .int .i64 (s.holds i)]) ∧ W = w' := by
    intro W x hB hx i
    exact (h.below hB).get_ hx i
  have hFR : ∀ (W : World) (x : Nat), Below w.heap.size w W → T x = some s → Calls Try.prog 20 #[.pointer (some ⟨x, 0, none⟩)] W fun en w' => en = .returned (.int .i64 ((n : Int) - s.used)) ∧ ∃ q, w' = W.drewN q := by
    intro W x hB hx
    exact (h.below hB).free_ hx
  have HND := hide hND
  have HLT := hide hlt
  have HGT := hide hGT
  have HFR := hide hFR
  have HH := hide h
  have HBD := hide hbd
  clear hND hGT hFR h hbd hlt hr
  go_enter Try.func30, Try.ntmps30
  go_wp2
  go_loopw [9] (fun tx w2 => ∃ i : Nat, tx = .int .i64 (i : Int) ∧ i ≤ l ∧ Below w.heap.size w w2) (fun tx _ => l - (intOf tx).toNat)
  case atStart => exact ⟨0, rfl, Nat.zero_le _, Below.refl _ _⟩
  case round =>
    obtain ⟨i, rfl, hi, hB⟩ := hrel
    rename World => w2
    have HB := hide hB
    clear hB
    by_cases hlt : i < l
    · have tok1 : True := trivial
      go_wp2_with
        (first
        | (go_at_call 26
           have _t := tok1
           refine (HND.out w2 a HB.out ha i).mono ?_
           rintro en w3 ⟨va, rfl, hv3, hB3⟩
           have HV3 := hide hv3
           have HB3 := hide (HB.out.trans (hB3.mono HB.out.size))
           clear hv3 hB3 tok1)
        | (go_at_call 26
           refine (HND.out w3 b HB3.out hb i).mono ?_
           rintro en w4 ⟨vb, rfl, hv4, hB4⟩
           have HV4 := hide hv4
           have HV34 := hide (HV3.out.below hB4)
           have HB4 := hide (HB3.out.trans (hB4.mono HB3.out.size))
           clear hv4 hB4)
        | (go_at_call 27
           refine (same_i w4 va vb _ HV34.out HV4.out (HLT.out i)).mono ?_
           rintro en w5 ⟨rfl, hB5⟩
           have HB5 := hide (HB4.out.trans (hB5.mono HB4.out.size))
           clear hB5))
      go_roundw
      case rel => exact ⟨i + 1, by go_num, by omega, HB5.out⟩
      case measure => simp [intOf]; omega
    · clear HND HLT
      go_wp2
      go_loopw [10] (fun tx w3 => ∃ j : Nat, tx = .int .i64 (j : Int) ∧ j ≤ n ∧ Below w.heap.size w w3) (fun tx _ => n - (intOf tx).toNat)
      case atStart => exact ⟨0, rfl, Nat.zero_le _, HB.out⟩
      case round =>
        obtain ⟨j, rfl, hj, hB3⟩ := hrel
        rename World => w3
        have HB3 := hide hB3
        clear hB3 HB
        by_cases hjt : j < n
        · have g1 := HGT.out w3 a HB3.out ha j
          have g2 := HGT.out w3 b HB3.out hb j
          generalize s.get 0 (j : Int) = gv at g1 g2
          generalize s.holds (j : Int) = hv at g1 g2
          have G1 := hide g1
          have G2 := hide g2
          have tok1 : True := trivial
          clear g1 g2
          go_wp2_with
            (first
            | (go_at_call 29
               have _t := tok1
               refine G1.out.mono ?_
               rintro en w4 ⟨rfl, rfl⟩
               clear tok1)
            | (go_at_call 29
               refine G2.out.mono ?_
               rintro en w4 ⟨rfl, rfl⟩))
          go_roundw
          case rel => exact ⟨j + 1, by go_num, by omega, HB3.out⟩
          case measure => simp [intOf]; omega
        · clear HGT
          have tok1 : True := trivial
          have tok2 : True := trivial
          by_cases hl0 : l = 0
          · go_wp2_with
              (first
              | (go_at_call 20
                 have _t := tok1
                 refine (HFR.out w3 a HB3.out ha).mono ?_
                 rintro en w4 ⟨rfl, q1, rfl⟩
                 clear tok1)
              | (go_at_call 20
                 refine (HFR.out (w3.drewN q1) b (below_drewN HB3.out q1) hb).mono ?_
                 rintro en w4 ⟨rfl, q2, rfl⟩))
            go_ret
            exact ⟨rfl, ⟨s, by rw [upd_self2 ha hb]; exact HH.out.below (below_drewN HB3.out (q1 + q2))⟩, (below_drewN HB3.out (q1 + q2)).mono h0⟩
          · have hu : ∃ u : Nat, s.used = (n : Int) - u ∧ u ≤ n := ⟨((n : Int) - s.used).toNat, by have := HBD.out.u0; have := HBD.out.um; have := HBD.out.mm; omega, by have := HBD.out.u0; omega⟩
            obtain ⟨u, hu, hun⟩ := hu
            have hfu : (n : Int) - s.used = (u : Int) := by omega
            rw [hfu] at HFR
            go_wp2_with
              (first
              | (go_at_call 20
                 have _t := tok1
                 refine (HFR.out w3 a HB3.out ha).mono ?_
                 rintro en w4 ⟨rfl, q1, rfl⟩
                 clear tok1)
              | (go_at_call 20
                 have _t := tok2
                 refine (HFR.out (w3.drewN q1) b (below_drewN HB3.out q1) hb).mono ?_
                 rintro en w4 ⟨rfl, q2, rfl⟩
                 clear tok2)
              | (go_at_call 20
                 refine (HFR.out (w3.drewN (q1 + q2)) a (below_drewN HB3.out (q1 + q2)) ha).mono ?_
                 rintro en w4 ⟨rfl, q3, rfl⟩))
            go_loopw [15] (fun tx w4 => ∃ (v : Nat) (s' : ASt Int), tx = .int .i64 (v : Int) ∧ v ≤ n ∧ s'.used = (n : Int) - v ∧ Ars w0 w4 n l (upd (upd T a (some s')) b (some s')) ∧ Below w0 w w4) (fun tx _ => (intOf tx).toNat)
            case atStart =>
              exact ⟨u, s, rfl, hun, hu, by rw [upd_self2 ha hb]; exact HH.out.below (below_drewN HB3.out _), (below_drewN HB3.out _).mono h0⟩
            case round =>
              obtain ⟨v, s', rfl, hv, hu', hAr, hB4⟩ := hrel
              rename World => w4
              by_cases hv0 : v = 0
              · subst hv0
                go_wp2
                go_ret
                exact ⟨rfl, ⟨s', hAr⟩, hB4⟩
              · have hta : upd (upd T a (some s')) b (some s') a = some s' := by rw [upd_other _ _ hab, upd_same]
                obtain ⟨_, hm', hl', _⟩ := hAr.bd hta
                have hE : s'.pushE 0 0 = 0 := by
                  unfold ASt.pushE ASt.isB isEndB
                  rw [if_neg (by simp; omega), if_neg (by omega)]
                have hU := push_used hE (v : Int)
                have hp1 := hAr.push (Nat.le_trans h0 hB4.size) hta 0 0 (v : Int)
                rw [hE] at hp1
                have hp2 : ∀ W, w0 ≤ W.heap.size → Ars w0 W n l (upd (upd (upd T a (some s')) b (some s')) a (some (s'.push 0 0 0 (v : Int)))) → Calls Try.prog 25 #[.pointer (some ⟨b, 0, none⟩), .int .i64 0, .int .i64 0, .int .i64 v] W fun en w' => en = .returned (.tuple #[.int .i64 (s'.pushR 0 0), .int .i64 0]) ∧
                    Ars w0 w' n l (upd (upd T a (some (s'.push 0 0 0 (v : Int)))) b (some (s'.push 0 0 0 (v : Int)))) ∧ Below w0 W w' := by
                  intro W hW hA
                  have htb : upd (upd (upd T a (some s')) b (some s')) a (some (s'.push 0 0 0 (v : Int))) b = some s' := by rw [upd_other _ _ (Ne.symm hab), upd_same]
                  have := hA.push hW htb 0 0 (v : Int)
                  rw [hE, upd_pair] at this
                  exact this
                generalize s'.pushR 0 0 = px at hp1 hp2
                have HP1 := hide hp1
                have HP2 := hide hp2
                have HB4 := hide hB4
                have tok3 : True := trivial
                have hv0' : 0 < v := by omega
                clear hp1 hp2 hB4 hAr hta HH HFR HB3 HBD
                go_wp2_with
                  (first
                  | (go_at_call 25
                     have _t := tok3
                     refine HP1.out.mono ?_
                     rintro en w5 ⟨rfl, hA5, hB5⟩
                     have HA5 := hide hA5
                     have HB5 := hide (HB4.out.trans hB5)
                     clear hA5 hB5 tok3)
                  | (go_at_call 25
                     refine (HP2.out w5 (Nat.le_trans h0 HB5.out.size) HA5.out).mono ?_
                     rintro en w6 ⟨rfl, hA6, hB6⟩
                     have HA6 := hide hA6
                     have HB6 := hide (HB5.out.trans hB6)
                     clear hA6 hB6))
                go_roundw
                case rel => exact ⟨v - 1, _, by go_num, by omega, by rw [hU]; omega, HA6.out, HB6.out⟩
                case measure => simp [intOf]; omega
end
end Go.Proofs.Ytbjmmfoklnhiiaa
