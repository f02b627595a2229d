/- The walks of the law's small functions: do, open, known. Conditions: the bounds that are named. -/
import Derived.Test.YtbjmmfoklnhiiaaW13
namespace Go.Proofs.Ytbjmmfoklnhiiaa
open Go.RowKit

def ASt.act (s : ASt Int) (k a b c : Int) : ASt Int :=
  if k = 1 then s.push 0 a b c else if k = 2 then s.pop 0 a b else if k = 3 then s.unlink 0 a else if k = 4 then s.move a b c else if k = 6 then s.set a c else s
theorem Rep.act {s : ASt Int} {A : Ab Int} (h : Rep s A) (k a b c : Int) : ∃ B, Rep (s.act k a b c) B ∧ A.like B := by
  unfold ASt.act
  split
  · exact h.push_ 0 c a b
  · split
    · exact h.pop_ 0 a b
    · split
      · exact h.unlink_ 0 a
      · split
        · exact h.move_ a b c
        · split
          · exact h.set_ a c
          · exact ⟨A, h, rfl, rfl⟩

/-- the arena lies at f, or its nodes have moved to a new block -/
def Moved (w : World) (f f' : Fp) : Prop := f'.ab = f.ab ∧ f'.lb = f.lb ∧ (f'.gb = f.gb ∨ w.heap.size ≤ f'.gb)
theorem Moved.refl (w : World) (f : Fp) : Moved w f f := ⟨rfl, rfl, .inl rfl⟩

set_option maxRecDepth 100000 in
set_option maxHeartbeats 1000000 in
theorem do_i (w : World) (f : Fp) (s : ASt Int) (A : Ab Int) (h : AMem Ki w f s) (hr : Rep s A) (k a b c : Int) :
    Calls Try.prog 12 #[.pointer (some ⟨f.ab, 0, none⟩), .agg #[.int .i64 k, .int .i64 a, .int .i64 b, .int .i64 c]] w fun en w' => en = .returned (.tuple #[]) ∧
      ∃ f', AMem Ki w' f' (s.act k a b c) ∧ Only f.has w w' ∧ Moved w f f' := by
  have hbd := hr.bd
  have h1 : AMem Ki (w.alloc (.cells #[.int .i64 k, .int .i64 a, .int .i64 b, .int .i64 c] 28)) f s := h.alloc _
  have hO : Only f.has w (w.alloc (.cells #[.int .i64 k, .int .i64 a, .int .i64 b, .int .i64 c] 28)) := (Only.refl _ _).alloc _
  have HO := hide hO
  have HM := hide h1
  unfold ASt.act
  by_cases e1 : k = 1
  · subst e1
    rw [if_pos rfl]
    have hc := push_i _ f s h1 hbd a b c
    have HC := hide hc
    clear hc h1 hO h hr hbd
    go_enter Try.func12, Try.ntmps12
    go_wp2_with (go_at_call 25; refine HC.out.mono ?_; rintro en w' ⟨rfl, g', hM, hO, hg⟩)
    go_end0
    exact ⟨rfl, _, hM, HO.out.trans hO, rfl, rfl, hg.imp id (fun h => by simp at h; show w.heap.size ≤ g'; omega)⟩
  have b1 : (k == 1) = false := beq_eq_false_iff_ne.2 e1
  rw [if_neg e1]
  by_cases e2 : k = 2
  · subst e2
    rw [if_pos rfl]
    have hc := pop_i _ f s h1 hbd a b
    have HC := hide hc
    clear hc h1 hO h hr hbd b1 e1
    go_enter Try.func12, Try.ntmps12
    go_wp2_with (go_at_call 33; refine HC.out.mono ?_; rintro en w' ⟨rfl, hM, hO⟩)
    go_end0
    exact ⟨rfl, _, hM, HO.out.trans hO, Moved.refl _ _⟩
  have b2 : (k == 2) = false := beq_eq_false_iff_ne.2 e2
  rw [if_neg e2]
  by_cases e3 : k = 3
  · subst e3
    rw [if_pos rfl]
    have hc := unlink_i _ f s h1 hbd a
    have HC := hide hc
    clear hc h1 hO h hr hbd b1 e1 b2 e2
    go_enter Try.func12, Try.ntmps12
    go_wp2_with (go_at_call 24; refine HC.out.mono ?_; rintro en w' ⟨rfl, hM, hO⟩)
    go_end0
    exact ⟨rfl, _, hM, HO.out.trans hO, Moved.refl _ _⟩
  have b3 : (k == 3) = false := beq_eq_false_iff_ne.2 e3
  rw [if_neg e3]
  by_cases e4 : k = 4
  · subst e4
    rw [if_pos rfl]
    have hc := move_i _ f s h1 hbd a b c
    have HC := hide hc
    clear hc h1 hO h hr hbd b1 e1 b2 e2 b3 e3
    go_enter Try.func12, Try.ntmps12
    go_wp2_with (go_at_call 23; refine HC.out.mono ?_; rintro en w' ⟨rfl, hM, hO⟩)
    go_end0
    exact ⟨rfl, _, hM, HO.out.trans hO, Moved.refl _ _⟩
  have b4 : (k == 4) = false := beq_eq_false_iff_ne.2 e4
  rw [if_neg e4]
  by_cases e6 : k = 6
  · subst e6
    rw [if_pos rfl]
    have hc := set_i _ f s h1 a c
    have HC := hide hc
    clear hc h1 hO h hr hbd b1 e1 b2 e2 b3 e3 b4 e4
    go_enter Try.func12, Try.ntmps12
    go_wp2_with (go_at_call 34; refine HC.out.mono ?_; rintro en w' ⟨rfl, hM, hO⟩)
    go_end0
    exact ⟨rfl, _, hM, HO.out.trans hO, Moved.refl _ _⟩
  have b6 : (k == 6) = false := beq_eq_false_iff_ne.2 e6
  rw [if_neg e6]
  clear h1 hO h hr hbd e1 e2 e3 e4 e6
  go_enter Try.func12, Try.ntmps12
  go_wp2
  go_end0
  exact ⟨rfl, _, HM.out, HO.out, Moved.refl _ _⟩

theorem open_no (w : World) (n l : Int) (h : 2000 < n ∨ newE n l = 1) : Calls Try.prog 11 #[.int .i64 n, .int .i64 l] w fun en w' => en = .returned (.pointer none) ∧ w = w' := by
  by_cases h1 : 2000 < n
  · clear h
    go_enter Try.func11, Try.ntmps11
    go_wp2
    go_ret
    exact ⟨rfl, rfl⟩
  · have hn := new_no w n l (h.resolve_left h1)
    have HN := hide hn
    clear h hn
    go_enter Try.func11, Try.ntmps11
    go_wp2_with (go_at_call 31; refine HN.out.mono ?_; rintro en w' ⟨rfl, rfl⟩)
    go_ret
    exact ⟨rfl, rfl⟩

theorem open_yes (w : World) (n l : Int) (h1 : ¬ 2000 < n) (h : newE n l = 0) : Calls Try.prog 11 #[.int .i64 n, .int .i64 l] w fun en w' =>
    ∃ f : Fp, en = .returned (.pointer (some ⟨f.ab, 0, none⟩)) ∧ (∀ k, f.has k → w.heap.size ≤ k) ∧ AMem Ki w' f (ASt.init 0 n.toNat l.toNat l.toNat) ∧ Below w.heap.size w w' := by
  have hn := new_yes w n l h
  have HN := hide hn
  clear h hn
  go_enter Try.func11, Try.ntmps11
  go_wp2_with (go_at_call 31; refine HN.out.mono ?_; rintro en w' ⟨rfl, f, hf, hh, hM, hB⟩)
  go_ret
  exact ⟨f, by rw [hf]; rfl, hh, hM, hB⟩
theorem newE_cases (n l : Int) : newE n l = 0 ∨ newE n l = 1 := by unfold newE; split <;> simp
theorem rep_init {n l : Int} (h : newE n l = 0) : Rep (ASt.init (0 : Int) n.toNat l.toNat l.toNat) { most := n.toNat, made := 0, L := List.replicate l.toNat [], fr := [] } := by
  unfold newE at h
  split at h
  · cases h
  · exact Rep.init 0 (by omega) (by omega) _ (fun i hi => by simp [hi])
end Go.Proofs.Ytbjmmfoklnhiiaa
