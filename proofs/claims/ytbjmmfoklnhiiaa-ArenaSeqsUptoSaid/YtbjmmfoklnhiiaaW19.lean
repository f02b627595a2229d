/- Several arenas in memory, apart from one another; the law's 'same'. Conditions: the bounds that are named. -/
import Derived.Test.YtbjmmfoklnhiiaaW18
namespace Go.Proofs.Ytbjmmfoklnhiiaa
open Go.RowKit

/-- a slice that reads as a list of numbers -/
def Vw (w : World) (v : Value) (l : List Int) : Prop :=
  ∃ oa cap, v = .slice oa l.length cap ∧ ∀ i x, l[i]? = some x → ∃ g, oa = some ⟨g, 0, none⟩ ∧ g < w.heap.size ∧ w.cell? ⟨g, i, none⟩ = some (.int .i64 x)
theorem Vw.below {w w' : World} {v : Value} {l : List Int} (h : Vw w v l) (hb : Below w.heap.size w w') : Vw w' v l := by
  obtain ⟨oa, cap, rfl, h⟩ := h
  refine ⟨oa, cap, rfl, fun i x hx => ?_⟩
  obtain ⟨g, rfl, hg, hc⟩ := h i x hx
  exact ⟨g, rfl, Nat.lt_of_lt_of_le hg hb.size, (hb.cell (by exact hg)).trans hc⟩
theorem Vw.of_own {w : World} {base : Nat} {v : Value} {xs : List (Nat × Int)} (h : w.ownsRow base 3 1 v xs.length (nums xs)) : Vw w v (xs.map fun x => (x.1 : Int)) := by
  rcases Nat.eq_zero_or_pos xs.length with h0 | h0
  · obtain ⟨a, c, rfl⟩ := own_len h
    have : xs = [] := List.eq_nil_of_length_eq_zero h0
    subst this
    exact ⟨a, c, by simp, fun i x hx => by simp at hx⟩
  · obtain ⟨g, cap, rfl, _⟩ := own_form h h0
    refine ⟨some ⟨g, 0, none⟩, cap, by simp, fun i x hx => ⟨g, rfl, (h.lt g rfl).2, ?_⟩⟩
    have hi : i < xs.length := by have := (List.getElem?_eq_some_iff.1 hx).1; simpa using this
    rw [h.cellAt i (by omega)]
    simp only [List.getElem?_map] at hx
    simp only [nums, List.getElem?_map]
    cases hh : xs[i]? with
    | none => rw [hh] at hx; cases hx
    | some y => rw [hh] at hx; simp at hx; simp [hx]

theorem nodes_v (w : World) (f : Fp) (s : ASt Int) (h : AMem Ki w f s) (l e : Int) (xs : List (Nat × Int)) (hx : Told s l e xs) (hm : s.made ≤ 4194304) :
    Calls Try.prog 26 #[.pointer (some ⟨f.ab, 0, none⟩), .int .i64 l, .int .i64 e] w fun en w' => ∃ v, en = .returned v ∧ Vw w' v (xs.map fun x => (x.1 : Int)) ∧ Below w.heap.size w w' := by
  refine (nodes_i w f s h l e xs hx hm).mono ?_
  rintro en w' ⟨v, rfl, ho, hb⟩
  exact ⟨v, rfl, .of_own ho, hb⟩

set_option maxRecDepth 100000 in
theorem same_i (w : World) (u v : Value) (l : List Int) (hu : Vw w u l) (hv : Vw w v l) (hl : l.length ≤ 4194304) :
    Calls Try.prog 27 #[u, v] w fun en w' => en = .returned (.bool true) ∧ Below w.heap.size w w' := by
  obtain ⟨oa, ca, rfl, ha⟩ := hu
  obtain ⟨ob, cb, rfl, hb⟩ := hv
  have HA := hide ha
  have HB := hide hb
  clear ha hb
  go_enter Try.func27, Try.ntmps27
  go_wp2
  go_loopw [5] (fun tx w2 => ∃ i : Nat, tx = .int .i64 (i : Int) ∧ i ≤ l.length ∧ Below w.heap.size w w2) (fun tx _ => l.length - (intOf tx).toNat)
  case atStart => exact ⟨0, rfl, Nat.zero_le _, Below.refl _ _⟩
  case round =>
    obtain ⟨i, rfl, hi, hB⟩ := hrel
    rename World => w2
    by_cases hlt : i < l.length
    · have hx : l[i]? = some l[i] := List.getElem?_eq_getElem hlt
      generalize l[i] = x at hx
      obtain ⟨ga, rfl, ha, c1⟩ := HA.out i x hx
      obtain ⟨gb, rfl, hb, c2⟩ := HB.out i x hx
      have d1 : w2.cell? ⟨ga, i, none⟩ = some (.int .i64 x) := (hB.cell (by exact ha)).trans c1
      have d2 : w2.cell? ⟨gb, i, none⟩ = some (.int .i64 x) := (hB.cell (by exact hb)).trans c2
      have HB2 := hide hB
      clear hB c1 c2 hx
      go_wp2
      go_quiet (fail)
      go_wp2
      go_roundw
      case rel => exact ⟨i + 1, by go_num, by omega, below_drewN HB2.out _⟩
      case measure => simp [intOf]; omega
    · go_wp2
      go_ret
      exact ⟨rfl, hB⟩

/-- several arenas lie in memory, all of so many nodes and lists, apart from one another: T says which -/
def Ars (w0 : Nat) (w : World) (n l : Nat) (T : Nat → Option (ASt Int)) : Prop :=
  ∃ F : Nat → Fp, (∀ ab s, T ab = some s → Lies w0 w ab (F ab) s n l) ∧ (∀ a b s t, T a = some s → T b = some t → a ≠ b → ∀ k, (F a).has k → ¬ (F b).has k)
section
variable {w0 n l : Nat} {w w' : World} {T : Nat → Option (ASt Int)} {ab : Nat} {s : ASt Int}
theorem Lies.lt {f : Fp} (h : Lies w0 w ab f s n l) {k : Nat} (hk : f.has k) : k < w.heap.size := by
  have := h.mem.ablt; have := h.mem.gblt; have := h.mem.lblt; rcases hk with e | e | e <;> omega
theorem Ars.none_ (w0 : Nat) (w : World) (n l : Nat) : Ars w0 w n l (fun _ => none) := ⟨fun _ => ⟨0, 0, 0⟩, ⟨(fun _ _ h => nomatch h), (fun _ _ _ _ h => nomatch h)⟩⟩
theorem Ars.get (h : Ars w0 w n l T) (ht : T ab = some s) : ∃ f, Lies w0 w ab f s n l := by obtain ⟨F, h1, _⟩ := h; exact ⟨_, h1 ab s ht⟩
theorem Ars.below (h : Ars w0 w n l T) (hb : Below w.heap.size w w') : Ars w0 w' n l T := by
  obtain ⟨F, h1, h2⟩ := h
  exact ⟨F, fun ab s hs => (h1 ab s hs).below hb, h2⟩
theorem Ars.op (h : Ars w0 w n l T) (h0 : w0 ≤ w.heap.size) (ht : T ab = some s) :
    ∃ f, Lies w0 w ab f s n l ∧ ∀ w' f' s', AMem Ki w' f' s' → (∃ A, Rep s' A ∧ A.most = n ∧ A.L.length = l) → Only f.has w w' → Moved w f f' → Ars w0 w' n l (upd T ab (some s')) ∧ Below w0 w w' := by
  obtain ⟨F, h1, h2⟩ := h
  have hL := h1 ab s ht
  refine ⟨F ab, hL, fun w' f' s' hM hr hO hv => ⟨⟨upd F ab f', ?_, ?_⟩, hO.below hL.fresh h0⟩⟩
  · intro x t hx
    by_cases e : x = ab
    · subst e
      rw [upd_same] at hx ⊢
      obtain rfl := Option.some.inj hx
      obtain ⟨m1, m2, m3⟩ := hv
      refine ⟨m1.trans hL.ab, hM, ?_, hr⟩
      intro j hj
      rcases hj with e | e | e
      · exact hL.fresh j (.inl (by omega))
      · rcases m3 with m | m
        · exact hL.fresh j (.inr (.inl (by omega)))
        · omega
      · exact hL.fresh j (.inr (.inr (by omega)))
    · rw [upd_other _ _ e] at hx ⊢
      have hx' := h1 x t hx
      exact ⟨hx'.ab, hx'.mem.only hO (fun k hk hk' => h2 x ab t s hx ht e k hk hk'), hx'.fresh, hx'.rep⟩
  · have key : ∀ x t, T x = some t → x ≠ ab → ∀ k, f'.has k → ¬ (F x).has k := by
      intro x t hx e k hk hk'
      obtain ⟨m1, m2, m3⟩ := hv
      have hd := h2 x ab t s hx ht e k hk'
      rcases hk with e1 | e1 | e1
      · exact hd (.inl (by omega))
      · rcases m3 with m | m
        · exact hd (.inr (.inl (by omega)))
        · have := (h1 x t hx).lt hk'; omega
      · exact hd (.inr (.inr (by omega)))
    intro a b t u ha hb hne k hk hk'
    by_cases ea : a = ab
    · subst ea
      have eb : b ≠ a := fun e => hne e.symm
      rw [upd_other _ _ eb] at hb hk'
      rw [upd_same] at hk
      exact key b u hb eb k hk hk'
    · rw [upd_other _ _ ea] at ha hk
      by_cases eb : b = ab
      · subst eb
        rw [upd_same] at hk'
        exact key a t ha ea k hk' hk
      · rw [upd_other _ _ eb] at hb hk'
        exact h2 a b t u ha hb hne k hk hk'
theorem Ars.add {f : Fp} (h : Ars w0 w n l T) (h0 : w0 ≤ w.heap.size) (hL : Lies w.heap.size w' ab f s n l) (hb : Below w.heap.size w w') : T ab = none ∧ Ars w0 w' n l (upd T ab (some s)) := by
  have hn : T ab = none := by
    cases hh : T ab with
    | none => rfl
    | some t =>
      obtain ⟨g, hg⟩ := h.get hh
      have h1 := hg.lt (.inl rfl)
      have h2 := hL.fresh _ (.inl rfl)
      have := hg.ab
      have := hL.ab
      omega
  have h' := h.below hb
  refine ⟨hn, ?_⟩
  obtain ⟨F, h1, h2⟩ := h
  refine ⟨upd F ab f, ?_, ?_⟩
  · intro x t hx
    by_cases e : x = ab
    · subst e
      rw [upd_same] at hx ⊢
      obtain rfl := Option.some.inj hx
      exact ⟨hL.ab, hL.mem, fun k hk => Nat.le_trans h0 (hL.fresh k hk), hL.rep⟩
    · rw [upd_other _ _ e] at hx ⊢
      exact (h1 x t hx).below hb
  · intro a b t u ha hb hne k hk hk'
    by_cases ea : a = ab
    · subst ea
      have eb : b ≠ a := fun e => hne e.symm
      rw [upd_other _ _ eb] at hb hk'
      rw [upd_same] at hk
      have := (h1 b u hb).lt hk'
      have := hL.fresh k hk
      omega
    · rw [upd_other _ _ ea] at ha hk
      by_cases eb : b = ab
      · subst eb
        rw [upd_same] at hk'
        have := (h1 a t ha).lt hk
        have := hL.fresh k hk'
        omega
      · rw [upd_other _ _ eb] at hb hk'
        exact h2 a b t u ha hb hne k hk hk'
theorem Ars.do_ (h : Ars w0 w n l T) (h0 : w0 ≤ w.heap.size) (ht : T ab = some s) (k a b c : Int) :
    Calls Try.prog 12 #[.pointer (some ⟨ab, 0, none⟩), .agg #[.int .i64 k, .int .i64 a, .int .i64 b, .int .i64 c]] w fun en w' => en = .returned (.tuple #[]) ∧
      Ars w0 w' n l (upd T ab (some (s.act k a b c))) ∧ Below w0 w w' := by
  obtain ⟨f, hL, hop⟩ := h.op h0 ht
  obtain ⟨A, hr, e1, e2⟩ := hL.rep
  obtain ⟨B, hB, l1, l2⟩ := hr.act k a b c
  have := do_i w f s A hL.mem hr k a b c
  rw [hL.ab] at this
  refine this.mono ?_
  rintro en w' ⟨he, f', hM, hO, hv⟩
  exact ⟨he, hop w' f' _ hM ⟨B, hB, by omega, by omega⟩ hO hv⟩
theorem Ars.whole (h : Ars w0 w n l T) (ht : T ab = some s) (hn : n ≤ 2000) :
    Calls Try.prog 13 #[.pointer (some ⟨ab, 0, none⟩), .int .i64 n, .int .i64 l] w fun en w' => en = .returned (.bool true) ∧ Below w.heap.size w w' := by
  obtain ⟨f, hL⟩ := h.get ht
  exact hL.whole hn
end
end Go.Proofs.Ytbjmmfoklnhiiaa
