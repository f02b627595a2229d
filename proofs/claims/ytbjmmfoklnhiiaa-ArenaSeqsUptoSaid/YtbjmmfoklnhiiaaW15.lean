/- The walk of the law's 'known'. Conditions: none. -/
import Derived.Test.YtbjmmfoklnhiiaaW14
namespace Go.Proofs.Ytbjmmfoklnhiiaa
open Go.RowKit

def s0 : ASt Int := ASt.init 0 2 1 1
def s1 : ASt Int := s0.push 0 0 1 7
theorem s0_push : s0.pushR 0 1 = 0 ∧ s0.pushE 0 1 = 0 := ⟨by decide, by decide⟩
theorem s1_get : s1.get 0 0 = 7 ∧ s1.holds 0 = 0 ∧ s1.len 0 = 1 ∧ (s1.most : Int) - s1.used = 1 := ⟨by decide, by decide, by decide, by decide⟩
theorem s0_rep : Rep s0 { most := 2, made := 0, L := List.replicate 1 [], fr := [] } := Rep.init 0 (by omega) (by omega) _ (fun i hi => by simp [hi])
theorem s1_bd : s1.Bd := by obtain ⟨B, h, _⟩ := s0_rep.push_ 0 7 0 1; exact h.bd

set_option maxRecDepth 100000 in
set_option maxHeartbeats 1000000 in
theorem known_i (w : World) : Calls Try.prog 10 #[] w fun en w' => en = .returned (.bool true) ∧ Below w.heap.size w w' := by
  have hnew := new_yes w 2 1 (by decide)
  have hk : ∀ (w1 : World) (f : Fp), f.ab = w.heap.size + 1 → AMem Ki w1 f s0 → Calls Try.prog 15 #[.pointer (some ⟨w.heap.size + 1, 0, none⟩), .int .i64 0, .int .i64 0] w1 fun en w' => en = .returned (.func (.func 38) #[] #[.pointer (some ⟨w1.heap.size, 0, none⟩)]) ∧ AMem Ki w' f s0 ∧ Below w1.heap.size w1 w' := by
    intro w1 f hf h
    rw [← hf]
    refine (all_i w1 f s0 h 0 0 _ (s0_rep.told 0 0) (by decide)).mono ?_
    rintro en w2 ⟨v, rfl, _, _, hB⟩
    exact ⟨rfl, h.below hB (fun k hk => by have := h.ablt; have := h.gblt; have := h.lblt; rcases hk with e | e | e <;> omega), hB⟩
  have hp : ∀ (w1 : World) (f : Fp), f.ab = w.heap.size + 1 → AMem Ki w1 f s0 → Calls Try.prog 25 #[.pointer (some ⟨w.heap.size + 1, 0, none⟩), .int .i64 0, .int .i64 1, .int .i64 7] w1 fun en w' => en = .returned (.tuple #[.int .i64 0, .int .i64 0]) ∧
      ∃ g', AMem Ki w' { f with gb := g' } s1 ∧ Only f.has w1 w' := by
    intro w1 f hf h
    rw [← hf]
    have := push_i w1 f s0 h s0_rep.bd 0 1 7
    rw [s0_push.1, s0_push.2] at this
    exact this.mono fun en w' ⟨he, g', hM, hO, _⟩ => ⟨he, g', hM, hO⟩
  have hg : ∀ (w1 : World) (f : Fp), f.ab = w.heap.size + 1 → AMem Ki w1 f s1 → Calls Try.prog 29 #[.pointer (some ⟨w.heap.size + 1, 0, none⟩), .int .i64 0] w1 fun en w' => en = .returned (.tuple #[.int .i64 7, .int .i64 0]) ∧ w1 = w' := by
    intro w1 f hf h
    rw [← hf]
    have := get_i w1 f s1 h 0
    rw [s1_get.1, s1_get.2.1] at this
    exact this
  have hl : ∀ (w1 : World) (f : Fp), f.ab = w.heap.size + 1 → AMem Ki w1 f s1 → Calls Try.prog 32 #[.pointer (some ⟨w.heap.size + 1, 0, none⟩), .int .i64 0] w1 fun en w' => en = .returned (.int .i64 1) ∧ w1 = w' := by
    intro w1 f hf h
    rw [← hf]
    have := len_i w1 f s1 h 0
    rw [s1_get.2.2.1] at this
    exact this
  have hf : ∀ (w1 : World) (f : Fp), f.ab = w.heap.size + 1 → AMem Ki w1 f s1 → Calls Try.prog 20 #[.pointer (some ⟨w.heap.size + 1, 0, none⟩)] w1 fun en w' => en = .returned (.int .i64 1) ∧ ∃ k, w' = w1.drewN k := by
    intro w1 f hf h
    rw [← hf]
    have := free_n_i w1 f s1 h s1_bd.u0 (by have := s1_bd.um; have := s1_bd.mm; omega) s1_bd.m22
    rw [s1_get.2.2.2] at this
    exact this
  have HN := hide hnew
  have HK := hide hk
  have HP := hide hp
  have HG := hide hg
  have HL := hide hl
  have HF := hide hf
  clear hnew hk hp hg hl hf
  go_enter Try.func10, Try.ntmps10
  go_wp2_with
    (first
    | (go_at_call 31
       refine HN.out.mono ?_
       rintro en w1 ⟨rfl, f, hfa, hfh, hM, hB⟩
       have HFA := hide hfa
       have HM := hide hM
       have HB := hide hB
       have HFH := hide hfh
       have hsz : w.heap.size ≤ w1.heap.size := hB.size
       have heq := eqf w1.heap.size
       clear hfa hM hB hfh)
    | (go_at_call 15
       refine (HK.out _ f HFA.out HM.out).mono ?_
       rintro en w2 ⟨rfl, hM2, hB2⟩
       have HM2 := hide hM2
       have HB2 := hide (HB.out.trans (hB2.mono hsz))
       clear hM2 hB2)
    | (go_at_call 25
       refine (HP.out _ f HFA.out HM2.out).mono ?_
       rintro en w3 ⟨rfl, g', hM3, hO3⟩
       have HM3 := hide hM3
       have HB3 := hide (HB2.out.trans (hO3.below HFH.out HB2.out.size))
       clear hM3 hO3)
    | (go_at_call 29
       refine (HG.out _ { f with gb := g' } (by exact HFA.out) HM3.out).mono ?_
       rintro en w4 ⟨rfl, rfl⟩)
    | (go_at_call 32
       refine (HL.out _ { f with gb := g' } (by exact HFA.out) HM3.out).mono ?_
       rintro en w4 ⟨rfl, rfl⟩)
    | (go_at_call 20
       refine (HF.out _ { f with gb := g' } (by exact HFA.out) HM3.out).mono ?_
       rintro en w4 ⟨rfl, k4, rfl⟩))
  go_ret
  exact ⟨rfl, below_drewN HB3.out _⟩
end Go.Proofs.Ytbjmmfoklnhiiaa
