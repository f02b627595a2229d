/- The plain law of the arena: Push, Pop, Unlink, Move, Set as calls on lists. Nothing here names the program. Conditions: none. -/
import Derived.Test.YtbjmmfoklnhiiaaRep2
namespace Go.Proofs.Ytbjmmfoklnhiiaa

section
variable {α : Type} {s : ASt α} {A : Ab α}

/-- a node that was freed is beside none -/
theorem Rep.free_not_beside (h : Rep s A) {i : Nat} {l : List (Nat × α)} {k : Nat} {m : Nat} (hi : A.L[i]? = some l) (hm : s.LS m = -1) (e : Bool) : ¬ (0 ≤ nb l e k ∧ m = (nb l e k).toNat) := by
  rintro ⟨h0, h1⟩
  rcases nb_cases l e k with h2 | ⟨j, y, h2, h3, _⟩
  · omega
  · rw [h3, Int.toNat_natCast] at h1
    have := (h.ch.nodes hi h2).2.2.1
    rw [← h1, hm] at this; omega

def Ab.drop (A : Ab α) (i k : Nat) (l : List (Nat × α)) : List (List (Nat × α)) := A.L.set i (l.eraseIdx k)

theorem mem_drop {L : List (List (Nat × α))} {i k i' j : Nat} {l l' : List (Nat × α)} {y : Nat × α} (hi : L[i]? = some l) (hi' : L[i']? = some l') (hj : l'[j]? = some y) (hne : ¬ (i' = i ∧ j = k)) :
    ∃ (a : Nat) (b : List (Nat × α)) (c : Nat) (z : Nat × α), (L.set i (l.eraseIdx k))[a]? = some b ∧ b[c]? = some z ∧ z.1 = y.1 := by
  have hlt : i < L.length := (List.getElem?_eq_some_iff.1 hi).1
  by_cases e : i' = i
  · subst e
    rw [hi] at hi'; injection hi' with hi'; subst hi'
    have hs : (L.set i' (l.eraseIdx k))[i']? = some (l.eraseIdx k) := by rw [List.getElem?_set, if_pos rfl, if_pos hlt]
    rcases Nat.lt_or_ge j k with a | a
    · exact ⟨i', _, j, y, hs, by rw [erase_lt a]; exact hj, rfl⟩
    · obtain ⟨m, rfl⟩ : ∃ m, j = m + 1 := ⟨j - 1, by omega⟩
      exact ⟨i', _, m, y, hs, by rw [erase_ge (by omega)]; exact hj, rfl⟩
  · exact ⟨i', l', j, y, by rw [List.getElem?_set, if_neg (fun e' => e e'.symm)]; exact hi', hj, rfl⟩

theorem free_fields (s : ASt α) (z : α) (n : Nat) : (s.free z n).L = (s.cut n).L ∧ (s.free z n).E = (s.cut n).E ∧ (s.free z n).CN = (s.cut n).CN ∧ (s.free z n).freed = n ∧ (s.free z n).used = s.used - 1 ∧
    (s.free z n).most = (s.cut n).most ∧ (s.free z n).made = (s.cut n).made ∧ (s.free z n).V = upd (s.cut n).V n z ∧ (s.free z n).LS = upd (s.cut n).LS n (-1) ∧
    (s.free z n).B = upd2 (upd2 (s.cut n).B false n (s.cut n).freed) true n (-1) := by
  unfold ASt.free ASt.wipe
  generalize s.cut n = t
  exact ⟨rfl, rfl, rfl, rfl, rfl, rfl, rfl, rfl, rfl, rfl⟩
theorem Rep.free (h : Rep s A) (z : α) {i : Nat} {l : List (Nat × α)} {k : Nat} {x : Nat × α} (hi : A.L[i]? = some l) (hk : l[k]? = some x) :
    Rep (s.free z x.1) { A with L := A.L.set i (l.eraseIdx k), fr := x.1 :: A.fr } := by
  have hc := h.ch.cut hi hk
  obtain ⟨gx1, gx2, gx3, gx4, gx5⟩ := h.ch.nodes hi hk
  have hkl := (List.getElem?_eq_some_iff.1 hk).1
  have ht := total_set (l.eraseIdx k) hi
  have hel : (l.eraseIdx k).length = l.length - 1 := by rw [List.length_eraseIdx]; simp [hkl]
  have hcount := h.count
  have hused := h.used
  obtain ⟨q1, q2, q3, q4, q5, q6, q7, q8, q9, q10⟩ := free_fields s z x.1
  have hmade : (s.free z x.1).made = s.made := q7.trans (cut_made _ _)
  have hLS : ∀ m, (s.free z x.1).LS m = if m = x.1 then -1 else s.LS m := fun m => by rw [q9, cut_LS]; rfl
  have hBf : ∀ m, (s.free z x.1).B false m = if m = x.1 then s.freed else (s.cut x.1).B false m := fun m => by
    rw [q10]; simp [upd2, upd, cut_freed]
  have hnx : x.1 ∉ A.fr := by
    intro hx
    obtain ⟨j, hj⟩ := List.getElem?_of_mem hx
    have := (h.frees hj).2.1
    rw [gx3] at this; omega
  refine ⟨?_, q6.trans ((cut_most _ _).trans h.most), hmade.trans h.made, h.mm, h.m22, by rw [List.length_set]; exact h.l256, ?_, ?_, q4, List.nodup_cons.2 ⟨hnx, h.frnd⟩, ?_, ?_⟩
  · refine hc.other x.1 (fun h1 h2 => (h.ch.cut_gone hi hk h1 h2).1) _ q1 (by rw [q7]; exact Nat.le_refl _) q2 q3 ?_
    intro m hm _
    refine ⟨by rw [q8]; simp [upd, hm], by rw [q9]; simp [upd, hm], fun e => ?_⟩
    rw [q10]
    cases e <;> simp [upd2, upd, hm]
  · show total (A.L.set i (l.eraseIdx k)) + (x.1 :: A.fr).length = A.made
    simp only [List.length_cons]; omega
  · rw [q5]
    show s.used - 1 = (total (A.L.set i (l.eraseIdx k)) : Int)
    omega
  · intro j n hj
    cases j with
    | zero =>
      simp at hj; subst hj
      refine ⟨by rw [hmade]; exact gx1, by rw [hLS, if_pos rfl], ?_⟩
      rw [hBf, if_pos rfl, h.freed]; rfl
    | succ j =>
      simp only [List.getElem?_cons_succ] at hj
      obtain ⟨f1, f2, f3⟩ := h.frees hj
      have hne : n ≠ x.1 := by rintro rfl; rw [f2] at gx3; omega
      refine ⟨by rw [hmade]; exact f1, by rw [hLS, if_neg hne]; exact f2, ?_⟩
      rw [hBf, if_neg hne, cut_Bf, gx5, if_neg (h.free_not_beside hi f2 true), f3]; rfl
  · intro n hn
    rw [hmade] at hn
    rcases h.cover hn with h1 | ⟨i', l', j, y, h1, h2, rfl⟩
    · exact .inl (List.mem_cons_of_mem _ h1)
    · by_cases e : i' = i ∧ j = k
      · obtain ⟨rfl, rfl⟩ := e
        rw [hi] at h1; injection h1 with h1; subst h1
        rw [hk] at h2; injection h2 with h2; subst h2
        exact .inl (List.mem_cons_self ..)
      · exact .inr (mem_drop hi h1 h2 e)

theorem mem_ins {L : List (List (Nat × α))} {i i' j : Nat} {l l' : List (Nat × α)} {y w : Nat × α} {e : Bool} (hi : L[i]? = some l) (hi' : L[i']? = some l') (hj : l'[j]? = some y) :
    ∃ (a : Nat) (b : List (Nat × α)) (c : Nat) (z : Nat × α), (L.set i (ins e w l))[a]? = some b ∧ b[c]? = some z ∧ z.1 = y.1 := by
  have hlt : i < L.length := (List.getElem?_eq_some_iff.1 hi).1
  by_cases e' : i' = i
  · subst e'
    rw [hi] at hi'; injection hi' with hi'; subst hi'
    have hs : (L.set i' (ins e w l))[i']? = some (ins e w l) := by rw [List.getElem?_set, if_pos rfl, if_pos hlt]
    have hjl := (List.getElem?_eq_some_iff.1 hj).1
    cases e with
    | true => exact ⟨i', _, j, y, hs, by simp only [ins, if_true]; rw [List.getElem?_append_left hjl]; exact hj, rfl⟩
    | false => exact ⟨i', _, j + 1, y, hs, by simp only [ins, Bool.false_eq_true, if_false]; rw [List.getElem?_cons_succ]; exact hj, rfl⟩
  · exact ⟨i', l', j, y, by rw [List.getElem?_set, if_neg (fun e => e' e.symm)]; exact hi', hj, rfl⟩
theorem ins_here {L : List (List (Nat × α))} {i : Nat} {l : List (Nat × α)} {w : Nat × α} (e : Bool) (hi : L[i]? = some l) :
    ∃ (a : Nat) (b : List (Nat × α)) (c : Nat) (z : Nat × α), (L.set i (ins e w l))[a]? = some b ∧ b[c]? = some z ∧ z.1 = w.1 := by
  have hlt : i < L.length := (List.getElem?_eq_some_iff.1 hi).1
  have hs : (L.set i (ins e w l))[i]? = some (ins e w l) := by rw [List.getElem?_set, if_pos rfl, if_pos hlt]
  cases e with
  | true => exact ⟨i, _, l.length, w, hs, by simp [ins], rfl⟩
  | false => exact ⟨i, _, 0, w, hs, by simp [ins], rfl⟩
theorem ins_length (e : Bool) (w : Nat × α) (l : List (Nat × α)) : (ins e w l).length = l.length + 1 := by cases e <;> simp [ins]

theorem Rep.push_new (h : Rep s A) (z v : α) {i : Nat} {l : List (Nat × α)} (e : Bool) (hi : A.L[i]? = some l) (hf : A.fr = []) (hlt : A.made < A.most) :
    s.pushN = A.made ∧ Rep (s.pushOk z i e v) { A with made := A.made + 1, L := A.L.set i (ins e (A.made, v) l) } := by
  have hfr : s.freed = -1 := by rw [h.freed, hf]; rfl
  have hN : s.pushN = s.made := by unfold ASt.pushN; rw [if_pos (by omega)]
  have hm := h.made
  have hS : s.pushOk z i e v = (((s.grow z).setV s.made v).link s.made i e).setUs (s.used + 1) := by
    unfold ASt.pushOk ASt.pushS; rw [hN, if_pos (by omega), Int.toNat_natCast]
  rw [hS, ← hm]
  refine ⟨hN, ?_⟩
  have hnot : ∀ {i : Nat} {l : List (Nat × α)} {k : Nat} {x : Nat × α}, A.L[i]? = some l → l[k]? = some x → x.1 ≠ s.made := fun h1 h2 => by have := (h.ch.nodes h1 h2).1; omega
  have hc1 : Chain ((s.grow z).setV s.made v) A.L := by
    refine h.ch.other s.made hnot _ rfl (Nat.le_succ _) rfl rfl ?_
    intro m hm _
    refine ⟨?_, ?_, fun e => ?_⟩
    · show upd (upd s.V s.made z) s.made v m = _; simp [upd, hm]
    · show upd s.LS s.made 0 m = _; simp [upd, hm]
    · show upd (s.B e) s.made 0 m = _; simp [upd, hm]
  have hc2 := hc1.link hi s.made (Nat.lt_succ_self _) e hnot
  have hv : ((s.grow z).setV s.made v).V s.made = v := by show upd (upd s.V s.made z) s.made v s.made = v; simp [upd]
  rw [hv] at hc2
  have ht := total_set (ins e (s.made, v) l) hi
  rw [ins_length] at ht
  have hcount := h.count
  have hused := h.used
  have hmade : ((((s.grow z).setV s.made v).link s.made i e).setUs (s.used + 1)).made = s.made + 1 := link_made (s := (s.grow z).setV s.made v) _ _ _
  refine ⟨⟨hc2.len, hc2.lists, hc2.nodes, hc2.uniq⟩, ?_, by rw [hmade], ?_, h.m22, by rw [List.length_set]; exact h.l256, ?_, ?_, ?_, h.frnd, ?_, ?_⟩
  · exact (link_most (s := (s.grow z).setV s.made v) _ _ _).trans h.most
  · show s.made + 1 ≤ A.most; omega
  · show total (A.L.set i (ins e (s.made, v) l)) + A.fr.length = s.made + 1; omega
  · show s.used + 1 = ((total (A.L.set i (ins e (s.made, v) l)) : Nat) : Int); omega
  · exact (link_freed (s := (s.grow z).setV s.made v) _ _ _).trans h.freed
  · intro k n hk; simp only [hf] at hk; simp at hk
  · intro n hn
    rw [hmade] at hn
    by_cases hnm : n = s.made
    · obtain ⟨a, b, c, d, h1, h2, h3⟩ := ins_here (w := (s.made, v)) e hi
      exact .inr ⟨a, b, c, d, h1, h2, by rw [h3, hnm]⟩
    · rcases h.cover (n := n) (by omega) with h1 | ⟨i', l', j, y, h1, h2, rfl⟩
      · exact .inl h1
      · exact .inr (mem_ins hi h1 h2)

theorem Rep.push_old (h : Rep s A) (z v : α) {i : Nat} {l : List (Nat × α)} (e : Bool) {n : Nat} {t : List Nat} (hi : A.L[i]? = some l) (hf : A.fr = n :: t) :
    s.pushN = n ∧ Rep (s.pushOk z i e v) { A with fr := t, L := A.L.set i (ins e (n, v) l) } := by
  have hf0 : A.fr[0]? = some n := by rw [hf]; rfl
  obtain ⟨f1, f2, f3⟩ := h.frees hf0
  have hfr : s.freed = n := by rw [h.freed]; unfold frAt; rw [hf0]
  have hN : s.pushN = n := by unfold ASt.pushN; rw [if_neg (by omega), hfr]
  have hS : s.pushOk z i e v = (((s.setFr (s.B false n)).setV n v).link n i e).setUs (s.used + 1) := by
    unfold ASt.pushOk ASt.pushS; rw [hN, if_neg (by omega), hfr, Int.toNat_natCast]
  rw [hS]
  refine ⟨hN, ?_⟩
  have hnot : ∀ {i : Nat} {l : List (Nat × α)} {k : Nat} {x : Nat × α}, A.L[i]? = some l → l[k]? = some x → x.1 ≠ n := fun h1 h2 e => by
    have := (h.ch.nodes h1 h2).2.2.1
    rw [e, f2] at this; omega
  have hc1 : Chain ((s.setFr (s.B false n)).setV n v) A.L := by
    refine h.ch.other n hnot _ rfl (Nat.le_refl _) rfl rfl ?_
    intro m hm _
    refine ⟨?_, rfl, fun e => rfl⟩
    show upd s.V n v m = _; simp [upd, hm]
  have hc2 := hc1.link hi n f1 e hnot
  have hv : ((s.setFr (s.B false n)).setV n v).V n = v := by show upd s.V n v n = v; simp [upd]
  rw [hv] at hc2
  have ht := total_set (ins e (n, v) l) hi
  rw [ins_length] at ht
  have hcount := h.count
  rw [hf, List.length_cons] at hcount
  have hused := h.used
  have hmade : ((((s.setFr (s.B false n)).setV n v).link n i e).setUs (s.used + 1)).made = s.made := link_made (s := (s.setFr (s.B false n)).setV n v) _ _ _
  have hnd := h.frnd
  rw [hf, List.nodup_cons] at hnd
  have hq1 : ((((s.setFr (s.B false n)).setV n v).link n i e).setUs (s.used + 1)).LS = ((s.setFr (s.B false n)).setV n v |>.link n i e).LS := rfl
  have hq2 : ((((s.setFr (s.B false n)).setV n v).link n i e).setUs (s.used + 1)).B = ((s.setFr (s.B false n)).setV n v |>.link n i e).B := rfl
  refine ⟨⟨hc2.len, hc2.lists, hc2.nodes, hc2.uniq⟩, ?_, by rw [hmade]; exact h.made, h.mm, h.m22, by rw [List.length_set]; exact h.l256, ?_, ?_, ?_, hnd.2, ?_, ?_⟩
  · exact (link_most (s := (s.setFr (s.B false n)).setV n v) _ _ _).trans h.most
  · show total (A.L.set i (ins e (n, v) l)) + t.length = A.made; omega
  · show s.used + 1 = ((total (A.L.set i (ins e (n, v) l)) : Nat) : Int); omega
  · refine (link_freed (s := (s.setFr (s.B false n)).setV n v) _ _ _).trans ?_
    show s.B false n = frAt t 0
    rw [f3, hf]; rfl
  · intro k m hk
    have hk' : A.fr[k + 1]? = some m := by rw [hf, List.getElem?_cons_succ]; exact hk
    obtain ⟨g1, g2, g3⟩ := h.frees hk'
    have hne : m ≠ n := by
      rintro rfl
      exact hnd.1 (List.mem_of_getElem? hk)
    refine ⟨by rw [hmade]; exact g1, ?_, ?_⟩
    · rw [hq1, link_LS, if_neg hne]; exact g2
    · rw [hq2]
      have hB : ((s.setFr (s.B false n)).setV n v |>.link n i e).B false m = s.B false m := by
        cases e with
        | true =>
          have := link_Bo (s := (s.setFr (s.B false n)).setV n v) n i m true
          simp only [Bool.not_true] at this
          rw [this, if_neg hne]; rfl
        | false =>
          rw [link_Bs, if_neg ?_, if_neg hne]
          · rfl
          · rintro ⟨p1, p2⟩
            have p1' : 0 ≤ s.E false i := p1
            have p2' : m = (s.E false i).toNat := p2
            rcases h.ch.end_ hi false with h1 | ⟨j, y, h1, h2⟩
            · omega
            · rw [h2, Int.toNat_natCast] at p2'
              have := (h.ch.nodes hi h1).2.2.1
              rw [← p2', g2] at this; omega
      rw [hB, g3, hf]; rfl
  · intro m hm
    rw [hmade] at hm
    by_cases hnm : m = n
    · obtain ⟨a, b, c, d, h1, h2, h3⟩ := ins_here (w := (n, v)) e hi
      exact .inr ⟨a, b, c, d, h1, h2, by rw [h3, hnm]⟩
    · rcases h.cover hm with h1 | ⟨i', l', j, y, h1, h2, rfl⟩
      · rw [hf] at h1
        rcases List.mem_cons.1 h1 with h1 | h1
        · exact absurd h1 hnm
        · exact .inl h1
      · exact .inr (mem_ins hi h1 h2)
end
end Go.Proofs.Ytbjmmfoklnhiiaa
