/- The walk of ArenaWhole. Conditions: the script lies in memory. -/
import Derived.Test.YtbjmmfoklnhiiaaW17
namespace Go.Proofs.Ytbjmmfoklnhiiaa
open Go.RowKit

theorem add_blk (a : Addr) (n : Nat) : (a.add n).block = a.block := by unfold Addr.add; split <;> rfl
/-- a script of steps lies in memory -/
def Script (w : World) (oa : Option Addr) (len : Nat) : Prop :=
  ∀ i, i < len → ∃ a, oa = some a ∧ a.block < w.heap.size ∧ ∃ k x y z : Int,
    w.cell? (a.add (i * 4)) = some (.int .i64 k) ∧ w.cell? ⟨(a.add (i * 4)).block, (a.add (i * 4)).off + 1, none⟩ = some (.int .i64 x) ∧ w.cell? ⟨(a.add (i * 4)).block, (a.add (i * 4)).off + 2, none⟩ = some (.int .i64 y) ∧ w.cell? ⟨(a.add (i * 4)).block, (a.add (i * 4)).off + 3, none⟩ = some (.int .i64 z)
theorem Script.below {w w' : World} {oa : Option Addr} {len : Nat} (h : Script w oa len) (hb : Below w.heap.size w w') : Script w' oa len := by
  intro i hi
  obtain ⟨a, ha, hlt, k, x, y, z, h0, h1, h2, h3⟩ := h i hi
  exact ⟨a, ha, Nat.lt_of_lt_of_le hlt hb.size, k, x, y, z, (hb.cell (by show (a.add (i * 4)).block < w.heap.size; rw [add_blk]; exact hlt)).trans h0, (hb.cell (by show (a.add (i * 4)).block < w.heap.size; rw [add_blk]; exact hlt)).trans h1, (hb.cell (by show (a.add (i * 4)).block < w.heap.size; rw [add_blk]; exact hlt)).trans h2, (hb.cell (by show (a.add (i * 4)).block < w.heap.size; rw [add_blk]; exact hlt)).trans h3⟩

/-- an arena that lies in new memory, with so many nodes and lists -/
structure Lies (w0 : Nat) (w : World) (ab : Nat) (f : Fp) (s : ASt Int) (n l : Nat) : Prop where
  ab : f.ab = ab
  mem : AMem Ki w f s
  fresh : ∀ k, f.has k → w0 ≤ k
  rep : ∃ A, Rep s A ∧ A.most = n ∧ A.L.length = l

theorem Lies.act {w0 ab n l : Nat} {w w' : World} {f : Fp} {s : ASt Int} (h : Lies w0 w ab f s n l) (h0 : w0 ≤ w.heap.size) {f' : Fp} {k a b c : Int} (hm : AMem Ki w' f' (s.act k a b c)) (hv : Moved w f f') : Lies w0 w' ab f' (s.act k a b c) n l := by
  obtain ⟨e1, e2, e3, e4⟩ := h
  obtain ⟨m1, m2, m3⟩ := hv
  refine ⟨m1.trans e1, hm, ?_, ?_⟩
  · intro j hj
    rcases hj with e | e | e
    · exact e3 j (.inl (by omega))
    · rcases m3 with m | m
      · exact e3 j (.inr (.inl (by omega)))
      · omega
    · exact e3 j (.inr (.inr (by omega)))
  · obtain ⟨A, hr, h1, h2⟩ := e4
    obtain ⟨B, hb, l1, l2⟩ := hr.act k a b c
    exact ⟨B, hb, by omega, by omega⟩


theorem Lies.whole {w0 ab n l : Nat} {w : World} {f : Fp} {s : ASt Int} (h : Lies w0 w ab f s n l) (hn : n ≤ 2000) :
    Calls Try.prog 13 #[.pointer (some ⟨ab, 0, none⟩), .int .i64 n, .int .i64 l] w fun en w' => en = .returned (.bool true) ∧ Below w.heap.size w w' := by
  obtain ⟨e1, e2, e3, A, hr, h1, h2⟩ := h
  rw [← e1, ← h1, ← h2]
  exact whole_i w f s A e2 hr (by omega)

theorem Lies.below {w0 ab n l : Nat} {w w' : World} {f : Fp} {s : ASt Int} (h : Lies w0 w ab f s n l) (hb : Below w.heap.size w w') : Lies w0 w' ab f s n l :=
  ⟨h.ab, h.mem.below hb (fun k hk => by have := h.mem.ablt; have := h.mem.gblt; have := h.mem.lblt; rcases hk with e | e | e <;> omega), h.fresh, h.rep⟩

theorem Lies.do_ {w0 ab n l : Nat} {w : World} {f : Fp} {s : ASt Int} (h : Lies w0 w ab f s n l) (h0 : w0 ≤ w.heap.size) (k a b c : Int) :
    Calls Try.prog 12 #[.pointer (some ⟨ab, 0, none⟩), .agg #[.int .i64 k, .int .i64 a, .int .i64 b, .int .i64 c]] w fun en w' => en = .returned (.tuple #[]) ∧
      (∃ f', Lies w0 w' ab f' (s.act k a b c) n l) ∧ Below w0 w w' := by
  obtain ⟨A, hr, _⟩ := h.rep
  have := do_i w f s A h.mem hr k a b c
  rw [h.ab] at this
  refine this.mono ?_
  rintro en w' ⟨he, f', hM, hO, hv⟩
  exact ⟨he, ⟨f', h.act h0 hM hv⟩, hO.below h.fresh h0⟩

set_option maxRecDepth 100000 in
set_option maxHeartbeats 4000000 in
theorem arenaWhole_i (w : World) (n l : Int) (oa : Option Addr) (len cap : Nat) (hsc : Script w oa len) :
    Calls Try.prog 5 #[.int .i64 n, .int .i64 l, .slice oa len cap] w fun en w' => en = .returned (.bool true) ∧ Below w.heap.size w w' := by
  have HK := fun W => hide (known_i W)
  have HS := hide hsc
  by_cases hb : 2000 < n ∨ newE n l = 1
  · have HN := fun W => hide (open_no W n l hb)
    clear hsc
    have hfin : (decide (2000 < n) || decide (n < 0) || decide (l < 0) || decide (256 < l)) = true := by
      rcases hb with h | h
      · simp [h]
      · unfold newE at h
        split at h
        · simp; omega
        · cases h
    have HF := hide hfin
    clear hb hfin
    go_enter Try.func5, Try.ntmps5
    go_wp2_with
      (first
      | (go_at_call 10
         refine (HK _).out.mono ?_
         rintro en w1 ⟨rfl, hB1⟩
         have HB1 := hide hB1
         clear hB1)
      | (go_at_call 11
         refine (HN _).out.mono ?_
         rintro en w2 ⟨rfl, rfl⟩))
    all_goals
      go_ret
      refine ⟨?_, HB1.out⟩
      first
      | rfl
      | (have hf := HF.out
         simp only [Bool.or_eq_true, decide_eq_true_eq] at hf
         congr 2
         simp
         omega)
  · have hb1 : ¬ 2000 < n := fun h => hb (.inl h)
    have hb2 : newE n l = 0 := (newE_cases n l).resolve_right (fun h => hb (.inr h))
    have hz : 0 ≤ n ∧ 0 ≤ l := by unfold newE at hb2; split at hb2 <;> first | omega | cases hb2
    obtain ⟨nn, rfl⟩ := Int.eq_ofNat_of_zero_le hz.1
    obtain ⟨ll, rfl⟩ := Int.eq_ofNat_of_zero_le hz.2
    have HO : ∀ W : World, w.heap.size ≤ W.heap.size → Calls Try.prog 11 #[.int .i64 (nn : Int), .int .i64 (ll : Int)] W fun en w' => ∃ f s, en = .returned (.pointer (some ⟨f.ab, 0, none⟩)) ∧ Lies w.heap.size w' f.ab f s nn ll ∧ Below W.heap.size W w' := by
      intro W hW
      refine (open_yes W _ _ hb1 hb2).mono ?_
      rintro en w' ⟨f, he, hf, hM, hB⟩
      exact ⟨f, _, he, ⟨rfl, hM, fun k hk => Nat.le_trans hW (hf k hk), _, rep_init hb2, by simp, by simp⟩, hB⟩
    have hn2 : nn ≤ 2000 := by omega
    have HO := hide HO
    clear hsc hb hb1 hb2 hz
    go_enter Try.func5, Try.ntmps5
    go_wp2_with
      (first
      | (go_at_call 10
         refine (HK _).out.mono ?_
         rintro en w1 ⟨rfl, hB1⟩
         have HB1 := hide hB1
         have hsz1 := hB1.size
         clear hB1)
      | (go_at_call 11
         refine (HO.out w1 hsz1).mono ?_
         rintro en w2 ⟨f, s, rfl, hL, hB2⟩
         have HL := hide hL
         have HB2 := hide (HB1.out.trans (hB2.mono hsz1))
         have hsz2 := HB2.out.size
         clear hL hB2))
    go_loopw [8] (fun tx w3 => ∃ (i : Nat) (g : Fp) (u : ASt Int), tx = .int .i64 (i : Int) ∧ i ≤ len ∧ i ≤ 60 ∧ Lies w.heap.size w3 f.ab g u nn ll ∧ Below w.heap.size w w3) (fun tx _ => 60 - (intOf tx).toNat)
    case atStart => exact ⟨0, _, _, rfl, Nat.zero_le _, Nat.zero_le _, HL.out, HB2.out⟩
    case round =>
      obtain ⟨i, g, u, rfl, hi, hi60, hL3, hB3⟩ := hrel
      rename World => w3
      have hsz3 := hB3.size
      by_cases hlt : i < len
      · by_cases h60 : i < 60
        · obtain ⟨a, rfl, hab, k, x, y, z, c0, c1, c2, c3⟩ := (HS.out.below hB3) i hlt
          have HD := hide (hL3.do_ hsz3 k x y z)
          have HB3 := hide hB3
          clear hL3 hB3
          go_wp2_with
            (first
            | (go_at_call 12
               refine HD.out.mono ?_
               rintro en w4 ⟨rfl, ⟨f4, hL4⟩, hB4⟩
               have HL4 := hide hL4
               have HB4 := hide (HB3.out.trans hB4)
               have hsz4 := HB4.out.size
               clear hL4 hB4)
            | (go_at_call 13
               refine (HL4.out.whole hn2).mono ?_
               rintro en w5 ⟨rfl, hB5⟩
               have HL5 := hide (HL4.out.below hB5)
               have HB5 := hide (HB4.out.trans (hB5.mono hsz4))
               clear hB5))
          go_roundw
          case rel => exact ⟨i + 1, _, _, by go_num, by omega, by omega, HL5.out, HB5.out⟩
          case measure => simp [intOf]; omega
        · go_wp2_with
            (go_at_call 13
             refine (hL3.whole hn2).mono ?_
             rintro en w5 ⟨rfl, hB5⟩)
          go_ret
          exact ⟨rfl, hB3.trans (hB5.mono hsz3)⟩
      · go_wp2_with
          (go_at_call 13
           refine (hL3.whole hn2).mono ?_
           rintro en w5 ⟨rfl, hB5⟩)
        go_ret
        exact ⟨rfl, hB3.trans (hB5.mono hsz3)⟩
end Go.Proofs.Ytbjmmfoklnhiiaa
