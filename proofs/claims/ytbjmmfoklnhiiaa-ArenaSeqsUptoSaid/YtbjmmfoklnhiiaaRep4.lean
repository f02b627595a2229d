/- The plain law of the arena: Move, Set; the calls as one step; what All tells. Nothing here names the program. Conditions: none. -/
import Derived.Test.YtbjmmfoklnhiiaaRep3
namespace Go.Proofs.Ytbjmmfoklnhiiaa

section
variable {α : Type} {s : ASt α} {A : Ab α}

theorem Rep.move (h : Rep s A) {i i2 : Nat} {l l2 : List (Nat × α)} {k : Nat} {x : Nat × α} (e : Bool) (hi : A.L[i]? = some l) (hk : l[k]? = some x) (hi2 : (A.L.set i (l.eraseIdx k))[i2]? = some l2) :
    Rep ((s.cut x.1).link x.1 i2 e) { A with L := (A.L.set i (l.eraseIdx k)).set i2 (ins e x l2) } := by
  have hc := h.ch.cut hi hk
  obtain ⟨gx1, gx2, gx3, gx4, gx5⟩ := h.ch.nodes hi hk
  have hkl := (List.getElem?_eq_some_iff.1 hk).1
  have hc2 := hc.link hi2 x.1 (by rw [cut_made]; exact gx1) e (fun h1 h2 => (h.ch.cut_gone hi hk h1 h2).1)
  rw [cut_V, gx2] at hc2
  have ht := total_set (l.eraseIdx k) hi
  have ht2 := total_set (ins e x l2) hi2
  rw [ins_length] at ht2
  have hel : (l.eraseIdx k).length = l.length - 1 := by rw [List.length_eraseIdx]; simp [hkl]
  have hcount := h.count
  have hused := h.used
  have hmade : ((s.cut x.1).link x.1 i2 e).made = s.made := (link_made _ _ _ _).trans (cut_made _ _)
  refine ⟨hc2, (link_most _ _ _ _).trans ((cut_most _ _).trans h.most), hmade.trans h.made, h.mm, h.m22, by rw [List.length_set, List.length_set]; exact h.l256, ?_, ?_, ?_, h.frnd, ?_, ?_⟩
  · show total ((A.L.set i (l.eraseIdx k)).set i2 (ins e x l2)) + A.fr.length = A.made; omega
  · rw [link_used, cut_used]; show s.used = ((total ((A.L.set i (l.eraseIdx k)).set i2 (ins e x l2)) : Nat) : Int); omega
  · rw [link_freed, cut_freed]; exact h.freed
  · intro j m hj
    obtain ⟨g1, g2, g3⟩ := h.frees hj
    have hne : m ≠ x.1 := by rintro rfl; rw [g2] at gx3; omega
    refine ⟨by rw [hmade]; exact g1, by rw [link_LS, if_neg hne, cut_LS]; exact g2, ?_⟩
    have hcB : (s.cut x.1).B false m = s.B false m := by rw [cut_Bf, gx5, if_neg (h.free_not_beside hi g2 true)]
    rw [← g3, ← hcB]
    cases e with
    | true =>
      have := link_Bo (s := s.cut x.1) x.1 i2 m true
      simp only [Bool.not_true] at this
      rw [this, if_neg hne]
    | false =>
      rw [link_Bs, if_neg ?_, if_neg hne]
      rintro ⟨p1, p2⟩
      rcases hc.end_ hi2 false with h1 | ⟨j, y, h1, h2⟩
      · omega
      · rw [h2, Int.toNat_natCast] at p2
        have := (hc.nodes hi2 h1).2.2.1
        rw [cut_LS, ← p2, g2] at this; omega
  · intro n hn
    rw [hmade] at hn
    by_cases hnx : n = x.1
    · obtain ⟨a, b, c, d, h1, h2, h3⟩ := ins_here (w := x) e hi2
      exact .inr ⟨a, b, c, d, h1, h2, by rw [h3, hnx]⟩
    · rcases h.cover hn with h1 | ⟨i', l', j, y, h1, h2, rfl⟩
      · exact .inl h1
      · have hne : ¬ (i' = i ∧ j = k) := by
          rintro ⟨rfl, rfl⟩
          rw [hi] at h1; injection h1 with h1; subst h1
          rw [hk] at h2; injection h2 with h2; subst h2
          exact hnx rfl
        obtain ⟨a, b, c, d, q1, q2, q3⟩ := mem_drop hi h1 h2 hne
        obtain ⟨a', b', c', d', r1, r2, r3⟩ := mem_ins (e := e) (w := x) hi2 q1 q2
        exact .inr ⟨a', b', c', d', r1, r2, r3.trans q3⟩

theorem nodeAt_setv {l : List (Nat × α)} {k : Nat} {x : Nat × α} (v : α) (hk : l[k]? = some x) (j : Nat) : nodeAt (l.set k (x.1, v)) j = nodeAt l j := by
  have hkl := (List.getElem?_eq_some_iff.1 hk).1
  unfold nodeAt
  rw [List.getElem?_set]
  by_cases e : k = j
  · subst e; rw [if_pos rfl, if_pos hkl, hk]
  · rw [if_neg e]
theorem nb_setv {l : List (Nat × α)} {k : Nat} {x : Nat × α} (v : α) (hk : l[k]? = some x) (e : Bool) (j : Nat) : nb (l.set k (x.1, v)) e j = nb l e j := by
  unfold nb; rw [nodeAt_setv v hk, nodeAt_setv v hk]

theorem Rep.set (h : Rep s A) (v : α) {i : Nat} {l : List (Nat × α)} {k : Nat} {x : Nat × α} (hi : A.L[i]? = some l) (hk : l[k]? = some x) :
    Rep (s.setV x.1 v) { A with L := A.L.set i (l.set k (x.1, v)) } := by
  have hkl := (List.getElem?_eq_some_iff.1 hk).1
  have ht := total_set (l.set k (x.1, v)) hi
  rw [List.length_set] at ht
  have hcount := h.count
  have hused := h.used
  have back : ∀ {i' : Nat} {l' : List (Nat × α)} {j : Nat} {y : Nat × α}, (A.L.set i (l.set k (x.1, v)))[i']? = some l' → l'[j]? = some y →
      ∃ (l0 : List (Nat × α)) (y0 : Nat × α), A.L[i']? = some l0 ∧ l0[j]? = some y0 ∧ y0.1 = y.1 ∧ (∀ e, nb l' e j = nb l0 e j) ∧ (s.setV x.1 v).V y.1 = y.2 := by
    intro i' l' j y h1 h2
    rcases set_get hi h1 with ⟨rfl, rfl⟩ | ⟨hne, hl⟩
    · rw [List.getElem?_set] at h2
      by_cases e : k = j
      · subst e
        rw [if_pos rfl, if_pos hkl] at h2; injection h2 with h2; subst h2
        exact ⟨l, x, hi, hk, rfl, fun e => nb_setv v hk e _, by simp [ASt.setV, upd]⟩
      · rw [if_neg e] at h2
        refine ⟨l, y, hi, h2, rfl, fun e => nb_setv v hk e _, ?_⟩
        have hne : y.1 ≠ x.1 := fun e' => e (h.ch.uniq hi h2 hi hk e').symm
        simp only [ASt.setV, upd, if_neg hne]
        exact (h.ch.nodes hi h2).2.1
    · have hne' : y.1 ≠ x.1 := fun e' => hne (h.ch.uniq2 hl h2 hi hk e').1
      refine ⟨l', y, hl, h2, rfl, fun _ => rfl, ?_⟩
      simp only [ASt.setV, upd, if_neg hne']
      exact (h.ch.nodes hl h2).2.1
  refine ⟨⟨by rw [List.length_set]; exact h.ch.len, ?_, ?_, ?_⟩, h.most, h.made, h.mm, h.m22, by rw [List.length_set]; exact h.l256, ?_, ?_, h.freed, h.frnd, fun hj => h.frees hj, ?_⟩
  · intro i' l' hl'
    rcases set_get hi hl' with ⟨rfl, rfl⟩ | ⟨hne, hl⟩
    · obtain ⟨g1, g2, g3⟩ := h.ch.lists hi
      exact ⟨by rw [List.length_set]; exact g1, by rw [nodeAt_setv v hk]; exact g2, by rw [List.length_set, nb_setv v hk]; exact g3⟩
    · exact h.ch.lists hl
  · intro i' l' j y h1 h2
    obtain ⟨l0, y0, q1, q2, q3, q4, q5⟩ := back h1 h2
    obtain ⟨g1, g2, g3, g4, g5⟩ := h.ch.nodes q1 q2
    rw [q3] at g1 g3 g4 g5
    exact ⟨g1, q5, g3, by rw [q4]; exact g4, by rw [q4]; exact g5⟩
  · intro i' l1 j y l2 j' y' h1 h2 h3 h4 e
    obtain ⟨l0, y0, q1, q2, q3, _⟩ := back h1 h2
    obtain ⟨l3, y3, r1, r2, r3, _⟩ := back h3 h4
    exact h.ch.uniq q1 q2 r1 r2 (by rw [q3, r3, e])
  · show total (A.L.set i (l.set k (x.1, v))) + A.fr.length = A.made; omega
  · show s.used = ((total (A.L.set i (l.set k (x.1, v))) : Nat) : Int); omega
  · intro n hn
    rcases h.cover hn with h1 | ⟨i', l', j, y, h1, h2, rfl⟩
    · exact .inl h1
    · refine .inr ?_
      have hlt := (List.getElem?_eq_some_iff.1 hi).1
      by_cases e : i' = i
      · subst e
        rw [hi] at h1; injection h1 with h1; subst h1
        have hs : (A.L.set i' (l.set k (x.1, v)))[i']? = some (l.set k (x.1, v)) := by rw [List.getElem?_set, if_pos rfl, if_pos hlt]
        by_cases e2 : k = j
        · subst e2
          rw [hk] at h2; injection h2 with h2; subst h2
          exact ⟨i', _, k, (x.1, v), hs, by rw [List.getElem?_set, if_pos rfl, if_pos hkl], rfl⟩
        · exact ⟨i', _, j, y, hs, by rw [List.getElem?_set, if_neg e2]; exact h2, rfl⟩
      · exact ⟨i', l', j, y, by rw [List.getElem?_set, if_neg (fun e' => e e'.symm)]; exact h1, h2, rfl⟩

theorem Rep.init (z : α) {n l : Nat} (hn : n ≤ 4194304) (hl : l ≤ 256) (E : Nat → Int) (hE : ∀ i, i < l → E i = -1) :
    Rep { most := n, made := 0, L := l, V := fun _ => z, LS := fun _ => 0, B := fun _ _ => 0, E := fun _ => E, CN := fun _ => 0, freed := -1, used := 0 } ({ most := n, made := 0, L := List.replicate l [], fr := [] } : Ab α) := by
  have key : ∀ {i : Nat} {l' : List (Nat × α)}, (List.replicate l ([] : List (Nat × α)))[i]? = some l' → i < l ∧ l' = [] := by
    intro i l' h
    rw [List.getElem?_replicate] at h
    split at h
    · injection h with h; exact ⟨by assumption, h.symm⟩
    · cases h
  have ht : total (List.replicate l ([] : List (Nat × α))) = 0 := by simp [total]
  refine ⟨⟨by simp, ?_, ?_, ?_⟩, rfl, rfl, Nat.zero_le _, hn, by simpa using hl, by rw [ht]; rfl, by rw [ht]; rfl, rfl, List.nodup_nil, ?_, ?_⟩
  · intro i l' h
    obtain ⟨h1, rfl⟩ := key h
    exact ⟨rfl, hE i h1, hE i h1⟩
  · intro i l' k x h hk
    obtain ⟨_, rfl⟩ := key h
    simp at hk
  · intro i l' k x l2 k' x' h hk
    obtain ⟨_, rfl⟩ := key h
    simp at hk
  · intro k n h; simp at h
  · intro n h; exact absurd h (Nat.not_lt_zero _)

/-! ### what All tells -/
def Ab.tell (A : Ab α) (l e : Int) : List (Nat × α) :=
  if 0 ≤ l then (match A.L[l.toNat]? with | some x => if e = 0 then x else if e = 1 then x.reverse else [] | none => []) else []

theorem nodeAt_reverse (l : List (Nat × α)) {k : Nat} (h : k < l.length) : nodeAt l.reverse k = nodeAt l (l.length - 1 - k) := by
  refine nodeAt_congr ?_
  rw [List.getElem?_reverse h]
theorem nodeAt_rev_next (l : List (Nat × α)) {k : Nat} (h : k < l.length) : nodeAt l.reverse (k + 1) = nb l false (l.length - 1 - k) := by
  rcases Nat.lt_or_ge (k + 1) l.length with h1 | h1
  · rw [nodeAt_reverse l h1]
    obtain ⟨m, hm⟩ : ∃ m, l.length - 1 - k = m + 1 := ⟨l.length - 1 - k - 1, by omega⟩
    rw [hm, nb_succ]; congr 1; omega
  · rw [nodeAt_none (by simpa using h1), show l.length - 1 - k = 0 from by omega, nb_zero]
end
end Go.Proofs.Ytbjmmfoklnhiiaa
