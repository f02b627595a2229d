/- The walk of Twin at int. Conditions: none. -/
import Derived.Test.YtbjmmfoklnhiiaaW9
import Derived.Test.YtbjmmfoklnhiiaaApp
import Derived.Deep.DeepMust
namespace Go.Proofs.Ytbjmmfoklnhiiaa
open Go.RowKit

theorem rows_one {f : Nat → List Value} (hf : ∀ i, ∀ u ∈ f i, u.oneCell' = true) : ∀ n, ∀ u ∈ rows f n, u.oneCell' = true
  | 0 => by simp [rows]
  | n + 1 => by
    intro u hu
    rw [rows, List.mem_append] at hu
    exact hu.elim (rows_one hf n u) (hf n u)

theorem own_len {w : World} {base : Nat} {e : TypeId} {size : Nat} {v : Value} {n : Nat} {xs : List Value} (h : w.ownsRow base e size v n xs) : ∃ a cap, v = .slice a n cap := by
  rcases h.2 with ⟨h1, h2⟩ | ⟨g, cap, cur, h1, _⟩
  · exact ⟨none, 0, by rw [h1, h2]⟩
  · exact ⟨_, cap, h1⟩

/-- what the two appends of Twin leave -/
theorem twin_mem {α : Type} {K : Kn α} (hK : K.ok) {w w1 w2 : World} {s : ASt α} {nv lv v1 v2 : Value}
    (hb1 : Blk w1 w.heap.size K.tA (headRow s nv lv)) (hB1 : Below w.heap.size w w1) (hown1 : w1.ownsRow w.heap.size K.tN (K.vw + 3) v1 (0 + s.made) ([] ++ rows (nodeRow K s) s.made))
    (hown2 : w2.ownsRow w.heap.size K.tL 3 v2 (0 + s.L) ([] ++ rows (listRow s) s.L)) (hg2 : (w1.setCell ⟨w.heap.size, 1, none⟩ v1).grownBy w2 none) :
    ∃ f' : Fp, f'.ab = w.heap.size ∧ (∀ k, f'.has k → w.heap.size ≤ k) ∧ AMem K (w2.setCell ⟨w.heap.size, 2, none⟩ v2) f' s ∧ Below w.heap.size w (w2.setCell ⟨w.heap.size, 2, none⟩ v2) := by
  rw [List.nil_append, Nat.zero_add] at hown1 hown2
  have hb1' := (hb1.set_ 1 v1).grown hg2 (by simp)
  have hB2 := ((hB1.setCell (p := ⟨w.heap.size, 1, none⟩) (Nat.le_refl _) v1).grown hg2 (by simpa [World.setCell] using hB1.size) (by simp)).setCell (p := ⟨w.heap.size, 2, none⟩) (Nat.le_refl _) v2
  have h1a : v1.ownBlock ≠ some w.heap.size := own_blk_ne hown1 hb1 (fun e => hK.an e.symm)
  have h2a : v2.ownBlock ≠ some w.heap.size := own_blk_ne hown2 hb1' (fun e => hK.al e.symm)
  have ho1 : (w2.setCell ⟨w.heap.size, 2, none⟩ v2).ownsRow w.heap.size K.tN (K.vw + 3) v1 s.made (rows (nodeRow K s) s.made) :=
    own_far (p := ⟨w.heap.size, 2, none⟩) ((own_far (p := ⟨w.heap.size, 1, none⟩) hown1 h1a v1).kept hg2 (by cases v1.ownBlock <;> simp)) h1a v2
  have ho2 : (w2.setCell ⟨w.heap.size, 2, none⟩ v2).ownsRow w.heap.size K.tL 3 v2 s.L (rows (listRow s) s.L) := own_far (p := ⟨w.heap.size, 2, none⟩) hown2 h2a v2
  have hb2 := hb1'.set_ 2 v2
  refine ⟨⟨w.heap.size, v1.ownBlock.getD w.heap.size, v2.ownBlock.getD w.heap.size⟩, rfl, ?_, ⟨v1, v2, ?_, ⟨own_rebase ho1 (fun _ _ => Nat.zero_le _), ?_⟩, ⟨own_rebase ho2 (fun _ _ => Nat.zero_le _), ?_⟩⟩, hB2⟩
  · rintro k (h | h | h) <;> simp at h
    · omega
    · cases hv : v1.ownBlock with
      | none => rw [hv] at h; simp at h; omega
      | some g => rw [hv] at h; simp at h; have := (hown1.lt _ hv).1; omega
    · cases hv : v2.ownBlock with
      | none => rw [hv] at h; simp at h; omega
      | some g => rw [hv] at h; simp at h; have := (hown2.lt _ hv).1; omega
  · simpa [headRow] using hb2
  · cases v1.ownBlock <;> simp
  · cases v2.ownBlock <;> simp

set_option maxRecDepth 100000 in
theorem twin_i (w : World) (f : Fp) (s : ASt Int) (h : AMem Ki w f s) (hm : s.made ≤ 4194304) (hL : s.L ≤ 256) :
    Calls Try.prog 22 #[.pointer (some ⟨f.ab, 0, none⟩)] w fun en w' => ∃ f' : Fp, en = .returned (.pointer (some ⟨f'.ab, 0, none⟩)) ∧ (∀ k, f'.has k → w.heap.size ≤ k) ∧ AMem Ki w' f' s ∧ Below w.heap.size w w' := by
  obtain ⟨nv, lv, hb, ho, hl⟩ := h
  have c0 : w.cell? ⟨f.ab, 0, none⟩ = some (.int .i64 s.most) := by rw [hb.cell]; rfl
  have c1 : w.cell? ⟨f.ab, 1, none⟩ = some nv := by rw [hb.cell]; rfl
  have c2 : w.cell? ⟨f.ab, 2, none⟩ = some lv := by rw [hb.cell]; rfl
  have c3 : w.cell? ⟨f.ab, 3, none⟩ = some (.int .i64 s.freed) := by rw [hb.cell]; rfl
  have c4 : w.cell? ⟨f.ab, 4, none⟩ = some (.int .i64 s.used) := by rw [hb.cell]; rfl
  have hlt := hb.lt
  have hne : ¬ f.ab = w.heap.size := by omega
  have hne' : ¬ w.heap.size = f.ab := by omega
  obtain ⟨na, nc, hnv⟩ := ho.len
  obtain ⟨la, lc, hlv⟩ := hl.len
  subst hnv hlv
  obtain ⟨i0, hi0, hz0, hz1, hz2⟩ := info_parts info73
  obtain ⟨j0, hj0, hy0, hy1, hy2⟩ := info_parts info99
  have HB := hide hb
  have HO := hide ho
  have HL := hide hl
  clear hb ho hl
  have tok1 : True := trivial
  go_enter Try.func22, Try.ntmps22
  go_wp2_with
    (first
    | (at_builtin
       have _t := tok1
       go_must (
         refine wpList_app _ rfl (.const (.slice none 0 0)) (.tmp 10) 74 rfl w.heap.size 73 i0 _ 4 32 Try.underlying74 hi0 hz0 hz1 hz2 rfl (by decide) (.slice none 0 0) 0 [] rfl (World.ownsRow_nil _ _ _ _) (.slice na s.made nc) s.made _ rfl (HO.out.alloc _).1 (rows_one (fun i u hu => by simp [nodeRow, Ki] at hu; rcases hu with rfl | rfl | rfl | rfl <;> rfl) _) (by unfold maxLen; omega) (by omega) (by simp) ?_
         intro v1 w1 hown1 hg1 hat1
         obtain ⟨a1, d1, hv1⟩ := own_len hown1
         have hbt : Blk w1 w.heap.size 77 (headRow s (.slice na s.made nc) (.slice la s.L lc)) := (Blk.new w 77 _).grown hg1 (by simp [Value.ownBlock])
         have hB1 : Below w.heap.size w w1 := ((Below.refl _ w).alloc (Nat.le_refl _) _).grown hg1 (by simp) (by simp [Value.ownBlock])
         have m2 : w1.cell? ⟨f.ab, 2, none⟩ = some (.slice la s.L lc) := (hB1.cell hlt).trans c2
         have m3 : w1.cell? ⟨w.heap.size, 1, none⟩ = some (.slice na s.made nc) := hbt.cell 1
         have m4 : w1.frozen? ⟨w.heap.size, 1, none⟩ = false := hbt.frozen 1
         have hl1 : (w1.setCell ⟨w.heap.size, 1, none⟩ v1).ownsRow 0 99 3 (.slice la s.L lc) s.L (rows (listRow s) s.L) := own_far (p := ⟨w.heap.size, 1, none⟩) (((HL.out.alloc _).1).kept hg1 (by simp [Value.ownBlock]; cases la <;> simp)) (own_blk_ne (((HL.out.alloc _).1).kept hg1 (by simp [Value.ownBlock]; cases la <;> simp)) hbt (by decide)) v1
         have H1 := hide hown1
         have H2 := hide hbt
         have H3 := hide hB1
         have H4 := hide hl1
         clear hown1 hg1 hat1 hbt hB1 hl1
         rw [hv1] at H1 H4 ⊢
         rw [Nat.zero_add] at H1 H4 ⊢
         clear hv1 tok1))
    | (at_builtin
       go_must (
         refine wpList_app _ rfl (.const (.slice none 0 0)) (.tmp 16) 75 rfl w.heap.size 99 j0 _ 3 24 Try.underlying75 hj0 hy0 hy1 hy2 rfl (by decide) (.slice none 0 0) 0 [] rfl (World.ownsRow_nil _ _ _ _) (.slice la s.L lc) s.L _ rfl H4.out (rows_one (fun i u hu => by simp [listRow] at hu; rcases hu with rfl | rfl | rfl <;> rfl) _) (by unfold maxLen; omega) (by omega) (by simpa [World.setCell] using H3.out.size) ?_
         intro v2 w2 hown2 hg2 hat2
         obtain ⟨a2, d2, hv2⟩ := own_len hown2
         rw [Nat.zero_add] at hv2
         have hbt := (H2.out.set_ 1 (.slice a1 s.made d1)).grown hg2 (by simp [Value.ownBlock])
         have m3 : w2.cell? ⟨w.heap.size, 2, none⟩ = some (.slice la s.L lc) := hbt.cell 2
         have m4 : w2.frozen? ⟨w.heap.size, 2, none⟩ = false := hbt.frozen 2
         have hfin := twin_mem Ki_ok H2.out H3.out (by rw [Nat.zero_add]; exact H1.out) hown2 hg2
         rw [hv2] at hfin ⊢
         have HFIN := hide hfin
         clear hfin hv2 hown2 hg2 hat2 hbt)))
  go_ret
  obtain ⟨f', h1, h2, h3, h4⟩ := HFIN.out
  exact ⟨f', by rw [h1]; rfl, h2, h3, h4⟩
end Go.Proofs.Ytbjmmfoklnhiiaa
