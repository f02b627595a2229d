/- The walk of New at int. Conditions: none. -/
import Derived.Test.YtbjmmfoklnhiiaaW8
import Derived.Laws.MakeOwn
namespace Go.Proofs.Ytbjmmfoklnhiiaa
open Go.RowKit

theorem run_make_rowN {P : Program} (t e : TypeId) (i : TypeInfo) (z : Value) (ht : P.underlying t = some (.slice e)) (hi : P.info? e = some i) (hz : i.zero = some z)
    (kl kc : IntKind) (n c : Nat) (hnc : n ≤ c) (hbytes : i.bytes * c ≤ 281474976710656) (h63 : c ≤ 9223372036854775807) (w : World) :
    (Instr.makeSlice t (.int kl (n : Int)) (.int kc (c : Int))).run P w = .ok (.slice (some ⟨w.heap.size, 0, none⟩) n c) (w.alloc (.cells (madeCells z.cells (c * i.size)) e)) := by
  have hb : (i.bytes : Int) * (c : Int) ≤ 281474976710656 := by
    have h : ((i.bytes * c : Nat) : Int) ≤ 281474976710656 := by omega
    rwa [Int.natCast_mul] at h
  have hr := run_make (P := P) w t e i z ht hi hz kl kc n c (by omega) (by omega) hb (by omega)
  simp only [Int.toNat_natCast] at hr
  exact hr

/-- an arena of which the first k lists are made -/
def ASt.init {α : Type} (z : α) (nodes L k : Nat) : ASt α :=
  { most := nodes, made := 0, L := L, V := fun _ => z, LS := fun _ => 0, B := fun _ _ => 0, E := fun _ l => if l < k then -1 else 0, CN := fun _ => 0, freed := -1, used := 0 }

theorem init_next {α : Type} (z : α) (nodes L k : Nat) : ((ASt.init z nodes L k).setE false k (-1)).setE true k (-1) = ASt.init z nodes L (k + 1) := by
  unfold ASt.init ASt.setE upd2 upd
  simp only [ASt.mk.injEq, true_and, and_true]
  funext e l
  cases e <;> simp <;> (by_cases h : l = k <;> simp [h] <;> (split <;> (split <;> omega)))

theorem info99 : (Try.prog.info? 99).map (fun i => (i.zero, i.size, i.bytes)) = some (some (.agg #[.int .i64 0, .int .i64 0, .int .i64 0]), 3, 24) := by kernel_rfl

theorem made_rows (L nodes : Nat) : (madeCells #[.int .i64 0, .int .i64 0, .int .i64 0] (L * 3)).toList = rows (listRow (ASt.init (0 : Int) nodes L 0)) L := by
  apply List.ext_getElem?
  intro j
  by_cases hj : j < L * 3
  · have hp1 : j / 3 < L := by omega
    have e : j = j / 3 * 3 + j % 3 := by omega
    have hg := rows_get (f := listRow (ASt.init (0 : Int) nodes L 0)) (listRow_length _) (show j % 3 < 3 by omega) L hp1
    rw [← e] at hg
    rw [hg]
    have h3 : j % 3 = 0 ∨ j % 3 = 1 ∨ j % 3 = 2 := by omega
    rcases h3 with h | h | h <;> simp [madeCells, hj, h, listRow, ASt.init]
  · rw [List.getElem?_eq_none (by simp [madeCells]; omega), List.getElem?_eq_none (by rw [rows_length (listRow_length _)]; omega)]

def newE (n l : Int) : Int := if n < 0 ∨ 4194304 < n ∨ l < 0 ∨ 256 < l then 1 else 0

theorem new_no (w : World) (n l : Int) (h : newE n l = 1) : Calls Try.prog 31 #[.int .i64 n, .int .i64 l] w fun en w' => en = .returned (.tuple #[.pointer none, .int .i64 1]) ∧ w = w' := by
  by_cases h1 : n < 0
  · clear h
    go_enter Try.func31, Try.ntmps31
    go_wp2
    go_ret2
    exact ⟨rfl, rfl⟩
  by_cases h2 : 4194304 < n
  · clear h
    go_enter Try.func31, Try.ntmps31
    go_wp2
    go_ret2
    exact ⟨rfl, rfl⟩
  by_cases h3 : l < 0
  · clear h
    go_enter Try.func31, Try.ntmps31
    go_wp2
    go_ret2
    exact ⟨rfl, rfl⟩
  by_cases h4 : 256 < l
  · clear h
    go_enter Try.func31, Try.ntmps31
    go_wp2
    go_ret2
    exact ⟨rfl, rfl⟩
  unfold newE at h
  rw [if_neg (by omega)] at h
  cases h

set_option maxRecDepth 100000 in
theorem new_yes (w : World) (n l : Int) (h : newE n l = 0) : Calls Try.prog 31 #[.int .i64 n, .int .i64 l] w fun en w' =>
    en = .returned (.tuple #[.pointer (some ⟨w.heap.size + 1, 0, none⟩), .int .i64 0]) ∧ ∃ f : Fp, f.ab = w.heap.size + 1 ∧ (∀ k, f.has k → w.heap.size ≤ k) ∧ AMem Ki w' f (ASt.init 0 n.toNat l.toNat l.toNat) ∧ Below w.heap.size w w' := by
  have hh : 0 ≤ n ∧ n ≤ 4194304 ∧ 0 ≤ l ∧ l ≤ 256 := by
    unfold newE at h; split at h
    · cases h
    · omega
  clear h
  obtain ⟨h1, h2, h3, h4⟩ := hh
  obtain ⟨n, rfl⟩ := Int.eq_ofNat_of_zero_le h1
  obtain ⟨l, rfl⟩ := Int.eq_ofNat_of_zero_le h3
  simp only [Int.toNat_natCast] at *
  obtain ⟨i0, hi0, hz0, hz1, hz2⟩ := info_parts info99
  have hmk := fun W => run_make_rowN (P := Try.prog) 75 99 i0 _ Try.underlying75 hi0 hz0 .i64 .i64 l l (Nat.le_refl _) (by rw [hz2]; omega) (by omega) W
  simp only [hz1, Value.cells] at hmk
  obtain ⟨C, hC⟩ : ∃ C, madeCells #[.int .i64 0, .int .i64 0, .int .i64 0] (l * 3) = C := ⟨_, rfl⟩
  have hsz : C.size = l * 3 := by rw [← hC]; exact size_madeCells _ _
  have hrow : C.toList = rows (listRow (ASt.init (0 : Int) n l 0)) l := by rw [← hC]; exact made_rows l n
  rw [hC] at hmk
  have HR := hide hrow
  have HS := hide hsz
  clear hC hrow hsz hz0 hz1 hz2 hi0
  go_enter Try.func31, Try.ntmps31
  go_wp2
  obtain ⟨f, hf⟩ : ∃ f : Fp, f = ⟨w.heap.size + 1, w.heap.size + 1, w.heap.size⟩ := ⟨_, rfl⟩
  have hfa : f.ab = w.heap.size + 1 := by rw [hf]
  have hfl : f.lb = w.heap.size := by rw [hf]
  have hfh : ∀ k, f.has k → w.heap.size ≤ k := by rw [hf]; rintro k (h | h | h) <;> simp at h <;> omega
  have hm0 : AMem Ki ((w.alloc (.cells C 99)).alloc (.cells #[.int .i64 n, .slice none 0 0, .slice (some ⟨w.heap.size, 0, none⟩) l l, .int .i64 (-1), .int .i64 0] 77)) f (ASt.init 0 n l 0) := by
    refine ⟨.slice none 0 0, .slice (some ⟨w.heap.size, 0, none⟩) l l, ?_, ⟨World.ownsRow_nil _ _ _ _, .inr ⟨rfl, by rw [hf]⟩⟩, ⟨?_, .inl (by rw [hf]; rfl)⟩⟩
    · have := Blk.new (w.alloc (.cells C 99)) 77 #[.int .i64 n, .slice none 0 0, .slice (some ⟨w.heap.size, 0, none⟩) l l, .int .i64 (-1), .int .i64 0]
      rw [World.size_alloc] at this
      rw [hfa]
      exact this
    · show World.ownsRow _ 0 99 3 _ l (rows (listRow (ASt.init (0 : Int) n l 0)) l)
      rw [← HR.out]
      exact (World.ownsRow_lit w C l (Nat.zero_le _) (by unfold maxLen; omega) HS.out).alloc _
  have hb0 : Below w.heap.size w ((w.alloc (.cells C 99)).alloc (.cells #[.int .i64 n, .slice none 0 0, .slice (some ⟨w.heap.size, 0, none⟩) l l, .int .i64 (-1), .int .i64 0] 77)) :=
    ((Below.refl _ w).alloc (Nat.le_refl _) _).alloc (by simp) _
  have HM0 := hide hm0
  have HB0 := hide hb0
  have HF := hide hfh
  clear hm0 hb0 hfh hf
  go_loopw [32] (fun i wr => ∃ k : Nat, k ≤ l ∧ i = .int .i64 k ∧ AMem Ki wr f (ASt.init 0 n l k) ∧ Below w.heap.size w wr) (fun i _ => l - (intOf i).toNat)
  case atStart => exact ⟨0, Nat.zero_le _, rfl, HM0.out, HB0.out⟩
  case round =>
    obtain ⟨k, hk, rfl, hM, hB⟩ := hrel
    by_cases hlt : k < l
    · obtain ⟨lc, hls⟩ := hM.lists (by show 0 < l; omega)
      obtain ⟨d1, d2, d3, k1, k2, k3⟩ := hM.list (l := k) hlt
      rw [hfa] at hls
      rw [hfl] at hls d1 d2 d3 k1 k2 k3
      have HM := hide hM
      have HB := hide hB
      clear hM hB
      go_wp2
      go_roundw
      case rel =>
        refine ⟨k + 1, by omega, by go_num, ?_, ?_⟩
        · rw [← init_next]
          have h2 := iE1 (iE0 HM.out (l := k) hlt (-1)) (l := k) hlt (-1)
          rw [hfl] at h2
          exact h2
        · exact (HB.out.setCell (by simp) _).setCell (by simp) _
      case measure => simp [intOf]; omega
    · have hkl : k = l := by omega
      have HM := hide hM
      have HB := hide hB
      clear hM hB
      go_wp2
      go_ret2
      rw [hkl] at HM
      exact ⟨rfl, f, hfa, HF.out, HM.out, HB.out⟩
end Go.Proofs.Ytbjmmfoklnhiiaa
