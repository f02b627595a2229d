/- Several texts in one: Bounds on what rule's row tells. Nothing here names the program. The rows of a right event as a tree: spans of rows, their kids. Nothing here names the program. The walks of gen.plain, gen.behind. What gen makes of a plan, as functions on lists. Nothing here names the program. The walk of gen.ends. Conditions: those of each. -/
import Derived.Test.YtdpokdcendgfeaaW1
import Derived.Test.YtdpokdcendgfeaaW2
import Derived.Laws.MakeOwn
set_option linter.unusedSimpArgs false
set_option linter.unusedVariables false
set_option maxHeartbeats 80000000
namespace Go.Proofs.Ytdpokdcendgfeaa
theorem handV_le {P : Pl} {l : List Ac} {i : Nat} (h : handV P l i ≠ 0) : (handV P l i = 2 ∨ handV P l i = 3) ∧ i + handV P l i ≤ l.length := by
 unfold handV at h ⊢
 cases h0 : l[i]? with
 | none => simp [h0] at h
 | some x =>
   cases h1 : l[i + 1]? with
   | none => simp [h0, h1] at h
   | some y =>
     have hy := (List.getElem?_eq_some_iff.1 h1).1
     simp only [h0, h1] at h ⊢
     split at h
     · next hg =>
       rw [if_pos hg]
       split at h
       · next h2 => rw [if_pos h2]; exact ⟨.inl rfl, by omega⟩
       · next h2 =>
         rw [if_neg h2]
         split at h
         · exact absurd rfl h
         · next h3 =>
           rw [if_neg h3]
           cases h4 : l[i + 2]? with
           | none => simp [h4] at h
           | some z =>
             have hz := (List.getElem?_eq_some_iff.1 h4).1
             simp only [h4] at h ⊢
             split at h
             · next h5 => rw [if_pos h5]; exact ⟨.inr rfl, by omega⟩
             · exact absurd rfl h
     · exact absurd rfl h
/-- what a row tells lies in its bounds -/
def RowLe (l : List Ac) (row : Nat → Int → Option (Nat × Int)) : Prop := ∀ i what e n, row i what = some (e, n) → i < e ∧ e ≤ l.length ∧ 0 ≤ n ∧ n ≤ 256
theorem blockLoop_le {P : Pl} {l : List Ac} {row : Nat → Int → Option (Nat × Int)} (hr : RowLe l row) : ∀ (m i e : Nat), blockLoop P l row m i = some e → i ≤ e ∧ (i ≤ l.length → e ≤ l.length) := by
 intro m
 induction m using Nat.strongRecOn with
 | ind m ih =>
   intro i e h
   unfold blockLoop at h
   by_cases hm : m = 0
   · simp only [hm, dite_true, Option.some.injEq] at h
     subst h
     exact ⟨Nat.le_refl _, fun h => h⟩
   · simp only [hm, dite_false] at h
     cases hx : l[i]? with
     | none => simp [hx] at h
     | some x =>
       simp only [hx] at h
       split at h
       · split at h
         · cases h
         · next hh =>
           have := ih _ (by omega) _ _ h
           have := handV_le (P := P) (l := l) (i := i) (by omega)
           omega
       · split at h
         · cases h
         · cases hw : row i 0 with
           | none => simp [hw] at h
           | some en =>
             obtain ⟨e1, n⟩ := en
             simp only [hw] at h
             have := ih _ (by omega) _ _ h
             have := hr _ _ _ _ hw
             omega
theorem kidsLoop_le {l : List Ac} {row : Nat → Int → Option (Nat × Int)} (hr : RowLe l row) (k : Int) : ∀ (ws : List Int) (j i : Nat) (kind wants : Int) (e : Nat) (n : Int), kidsLoop l row k ws j i kind wants = some (e, n) → 0 ≤ wants → i ≤ e ∧ (i ≤ l.length → e ≤ l.length) ∧ 0 ≤ n
 | [], j, i, kind, wants, e, n, h, h0 => by
   simp only [kidsLoop, Option.some.injEq, Prod.mk.injEq] at h
   obtain ⟨rfl, rfl⟩ := h
   exact ⟨Nat.le_refl _, fun h => h, h0⟩
 | w :: ws, j, i, kind, wants, e, n, h, h0 => by
   simp only [kidsLoop] at h
   split at h
   · cases h
   · next e1 n1 hw =>
     have h1 := hr _ _ _ _ hw
     have := kidsLoop_le hr k ws _ _ _ _ e n h (by omega)
     omega
theorem rowV_le (P : Pl) (l : List Ac) : ∀ f, RowLe l (rowV P l f)
 | 0 => fun i what e n h => by simp [rowV] at h
 | f + 1 => fun i what e n h => by
   have ih := rowV_le P l f
   unfold rowV at h
   cases hx : l[i]? with
   | none => simp [hx] at h
   | some x =>
     have hi := (List.getElem?_eq_some_iff.1 hx).1
     simp only [hx] at h
     split at h
     · split at h
       · split at h
         · cases h
         · cases hb : blockLoop P l (rowV P l f) x.n.toNat (i + 1) with
           | none => simp [hb] at h
           | some e1 =>
             simp only [hb, Option.map_some, Option.some.injEq, Prod.mk.injEq] at h
             obtain ⟨rfl, rfl⟩ := h
             have := blockLoop_le ih _ _ _ hb
             omega
       · split at h
         · cases h
         · split at h
           · cases h
           · next e1 n1 hk =>
             have := kidsLoop_le ih _ _ _ _ _ _ _ _ hk (Int.le_refl _)
             split at h
             · simp only [Option.some.injEq, Prod.mk.injEq] at h
               obtain ⟨rfl, rfl⟩ := h
               omega
             · cases h
     · cases h
/-! a block's kids, one behind the other -/
section
variable {P : Pl} {l : List Ac} {row : Nat → Int → Option (Nat × Int)} {m i : Nat} {x : Ac}
theorem block_end : blockLoop P l row 0 i = some i := by unfold blockLoop; simp
theorem block_out (hm : 0 < m) (hx : l[i]? = none) : blockLoop P l row m i = none := by
 unfold blockLoop
 simp [show m ≠ 0 by omega, hx]
theorem block_hand (hm : 0 < m) (hx : l[i]? = some x) (h9 : x.k = 9) (hh : handV P l i ≠ 0) (hl : handV P l i ≤ m) : blockLoop P l row m i = blockLoop P l row (m - handV P l i) (i + handV P l i) := by
 conv => lhs; unfold blockLoop
 simp only [show m ≠ 0 by omega, dite_false, hx, h9, if_true]
 rw [dif_neg (by omega)]
theorem block_nohand (hm : 0 < m) (hx : l[i]? = some x) (h9 : x.k = 9) (hh : handV P l i = 0 ∨ m < handV P l i) : blockLoop P l row m i = none := by
 unfold blockLoop
 simp only [show m ≠ 0 by omega, dite_false, hx, h9, if_true]
 rw [dif_pos hh]
theorem block_bad (hm : 0 < m) (hx : l[i]? = some x) (hk : x.k = 10 ∨ x.k = 11 ∨ x.k = 12) : blockLoop P l row m i = none := by
 unfold blockLoop
 have h9 : x.k ≠ 9 := by omega
 simp only [show m ≠ 0 by omega, dite_false, hx, h9, if_false, hk, if_true]
theorem block_row (hm : 0 < m) (hx : l[i]? = some x) (h9 : x.k ≠ 9) (hk : ¬ (x.k = 10 ∨ x.k = 11 ∨ x.k = 12)) {e : Nat} {n : Int} (hr : row i 0 = some (e, n)) : blockLoop P l row m i = blockLoop P l row (m - 1) e := by
 conv => lhs; unfold blockLoop
 simp only [show m ≠ 0 by omega, dite_false, hx, h9, if_false, hk, hr]
theorem block_norow (hm : 0 < m) (hx : l[i]? = some x) (h9 : x.k ≠ 9) (hk : ¬ (x.k = 10 ∨ x.k = 11 ∨ x.k = 12)) (hr : row i 0 = none) : blockLoop P l row m i = none := by
 unfold blockLoop
 simp only [show m ≠ 0 by omega, dite_false, hx, h9, if_false, hk, hr]
end
end Go.Proofs.Ytdpokdcendgfeaa
namespace Go.Proofs.Ytdpokdcendgfeaa
/-- spans, one behind the other, each as wanted -/
def Kids (R : Int → Nat → Nat → Prop) : List Int → Nat → List (Nat × Nat) → Nat → Prop
 | [], i, [], e => i = e
 | w :: ws, i, r :: sp, e => r.1 = i ∧ R w r.1 r.2 ∧ Kids R ws r.2 sp e
 | _, _, _, _ => False
def wantsV (x : Ac) (k0 : Int) : List Int := if x.k = 1 then List.replicate x.n.toNat 0 else if x.k = 34 then [4, typeV k0] else kidsV x.k x.n
/-- a row and all of its own, from i to e -/
def Wf (P : Pl) (l : List Ac) : Nat → Int → Nat → Nat → Prop
 | 0, _, _, _ => False
 | f + 1, what, i, e => ∃ x sp, l[i]? = some x ∧ mayV what x.k = true ∧ numV P x = true ∧ 0 ≤ x.n ∧ (x.k ≠ 1 → x.n = ((kidsV x.k x.n).length : Int)) ∧
     Kids (Wf P l f) (wantsV x ((l[i + 1]?.map Ac.k).getD 0)) (i + 1) sp e ∧ (x.k = 1 → ∀ r ∈ sp, ∀ y, l[r.1]? = some y → y.k = 9 → handV P l r.1 ≠ 0)
section
variable {P : Pl} {l : List Ac}
theorem handV_rows {i : Nat} {x : Ac} (hx : l[i]? = some x) (h : handV P l i ≠ 0) : x.n = 0 ∧ numV P x = true ∧ ∀ j, 0 < j → j < handV P l i → ∃ y, l[i + j]? = some y ∧ y.n = 0 ∧ numV P y = true ∧ (y.k = 10 ∨ y.k = 11 ∨ y.k = 12) := by
 unfold handV at h ⊢
 simp only [hx] at h ⊢
 cases h1 : l[i + 1]? with
 | none => simp [h1] at h
 | some y =>
   simp only [h1] at h ⊢
   split at h
   · next hg =>
     rw [if_pos hg]
     simp only [Bool.and_eq_true, decide_eq_true_eq] at hg
     obtain ⟨⟨g1, g2⟩, g3, g4⟩ := hg
     refine ⟨g1, g2, ?_⟩
     split at h
     · next h2 =>
       rw [if_pos h2]
       simp only [Bool.or_eq_true, Bool.and_eq_true, decide_eq_true_eq] at h2
       intro j j0 j1
       obtain rfl : j = 1 := by omega
       exact ⟨y, h1, g3, g4, by rcases h2 with h2 | h2 <;> omega⟩
     · next h2 =>
       rw [if_neg h2]
       split at h
       · exact absurd rfl h
       · next h3 =>
         rw [if_neg h3]
         cases h4 : l[i + 2]? with
         | none => simp [h4] at h
         | some z =>
           simp only [h4] at h ⊢
           split at h
           · next h5 =>
             rw [if_pos h5]
             simp only [Bool.or_eq_true, Bool.and_eq_true, decide_eq_true_eq] at h5
             obtain ⟨⟨z1, z2⟩, z3⟩ := h5
             intro j j0 j1
             obtain rfl | rfl : j = 1 ∨ j = 2 := by omega
             · exact ⟨y, h1, g3, g4, by omega⟩
             · exact ⟨z, h4, z1, z2, by rcases z3 with z3 | z3 <;> omega⟩
           · exact absurd rfl h
   · exact absurd rfl h
theorem wf_leaf {f : Nat} {i : Nat} {x : Ac} (hx : l[i]? = some x) (hn : x.n = 0) (hv : numV P x = true) (hk : 9 ≤ x.k ∧ x.k ≤ 12) : Wf P l (f + 1) 0 i (i + 1) := by
 refine ⟨x, [], hx, ?_, hv, by omega, fun _ => ?_, ?_, fun _ r hr => by cases hr⟩
 · simp [mayV]
   omega
 · have : kidsV x.k x.n = [] := by
     unfold kidsV
     repeat rw [if_neg (by omega)]
   rw [this, hn]
   rfl
 · have : wantsV x ((l[i + 1]?.map Ac.k).getD 0) = [] := by
     unfold wantsV
     rw [if_neg (by omega), if_neg (by omega)]
     unfold kidsV
     repeat rw [if_neg (by omega)]
   rw [this]
   rfl
theorem block_kids {f : Nat} (hrow : ∀ what i e n, rowV P l f i what = some (e, n) → Wf P l (f + 1) what i e) : ∀ (m i e : Nat), blockLoop P l (rowV P l f) m i = some e →
   ∃ sp, Kids (Wf P l (f + 1)) (List.replicate m 0) i sp e ∧ ∀ r ∈ sp, ∀ y, l[r.1]? = some y → y.k = 9 → handV P l r.1 ≠ 0 := by
 intro m
 induction m using Nat.strongRecOn with
 | ind m ih =>
   intro i e h
   unfold blockLoop at h
   by_cases hm : m = 0
   · simp only [hm, dite_true, Option.some.injEq] at h
     subst h hm
     exact ⟨[], rfl, fun r hr => by cases hr⟩
   · simp only [hm, dite_false] at h
     cases hx : l[i]? with
     | none => simp [hx] at h
     | some x =>
       simp only [hx] at h
       split at h
       · next hk =>
         split at h
         · cases h
         · next hh =>
           obtain ⟨h1, h2⟩ := handV_le (P := P) (l := l) (i := i) (by omega)
           obtain ⟨sp, hk2, hh2⟩ := ih _ (by omega) _ _ h
           obtain ⟨a1, a2, a3⟩ := handV_rows (P := P) hx (by omega)
           have w0 : Wf P l (f + 1) 0 i (i + 1) := wf_leaf hx a1 a2 (by omega)
           have hw : ∀ j, 0 < j → j < handV P l i → Wf P l (f + 1) 0 (i + j) (i + j + 1) ∧ ∀ y, l[i + j]? = some y → y.k = 9 → handV P l (i + j) ≠ 0 := fun j j0 j1 => by
             obtain ⟨y, b1, b2, b3, b4⟩ := a3 j j0 j1
             exact ⟨wf_leaf b1 b2 b3 (by omega), fun y' hy' h9 => by rw [b1] at hy'; injection hy' with hy'; subst hy'; omega⟩
           rcases h1 with h1 | h1
           · rw [h1] at hk2 hw hh
             obtain ⟨p, hp⟩ : ∃ p, m = p + 1 + 1 := ⟨m - 2, by omega⟩
             subst hp
             have e1 := hw 1 (by omega) (by omega)
             refine ⟨(i, i + 1) :: (i + 1, i + 2) :: sp, ⟨rfl, w0, rfl, e1.1, by simpa using hk2⟩, ?_⟩
             intro r hr y hy h9
             simp only [List.mem_cons] at hr
             rcases hr with rfl | rfl | hr
             · show handV P l i ≠ 0
               omega
             · exact e1.2 y hy h9
             · exact hh2 r hr y hy h9
           · rw [h1] at hk2 hw hh
             obtain ⟨p, hp⟩ : ∃ p, m = p + 1 + 1 + 1 := ⟨m - 3, by omega⟩
             subst hp
             have e1 := hw 1 (by omega) (by omega)
             have e2 := hw 2 (by omega) (by omega)
             refine ⟨(i, i + 1) :: (i + 1, i + 2) :: (i + 2, i + 3) :: sp, ⟨rfl, w0, rfl, e1.1, rfl, e2.1, by simpa using hk2⟩, ?_⟩
             intro r hr y hy h9
             simp only [List.mem_cons] at hr
             rcases hr with rfl | rfl | rfl | hr
             · show handV P l i ≠ 0
               omega
             · exact e1.2 y hy h9
             · exact e2.2 y hy h9
             · exact hh2 r hr y hy h9
       · next hk =>
         split at h
         · cases h
         · cases hw : rowV P l f i 0 with
           | none => simp [hw] at h
           | some en =>
             obtain ⟨e2, n2⟩ := en
             simp only [hw] at h
             obtain ⟨sp, hk2, hh2⟩ := ih _ (by omega) _ _ h
             obtain ⟨p, hp⟩ : ∃ p, m = p + 1 := ⟨m - 1, by omega⟩
             subst hp
             refine ⟨(i, e2) :: sp, ⟨rfl, hrow _ _ _ _ hw, by simpa using hk2⟩, ?_⟩
             intro r hr y hy h9
             simp only [List.mem_cons] at hr
             rcases hr with rfl | hr
             · rw [hx] at hy
               injection hy with hy
               subst hy
               exact absurd h9 hk
             · exact hh2 r hr y hy h9
/-- the kids of other rows -/
theorem loop_kids {f : Nat} (hrow : ∀ what i e n, rowV P l f i what = some (e, n) → Wf P l (f + 1) what i e) (k : Int) : ∀ (ws : List Int) (j i e : Nat) (kind wants n : Int), (∀ w ∈ ws, w ≠ 4) → kidsLoop l (rowV P l f) k ws j i kind wants = some (e, n) →
   ∃ sp, Kids (Wf P l (f + 1)) ws i sp e
 | [], j, i, e, kind, wants, n, _, h => by
   simp only [kidsLoop, Option.some.injEq, Prod.mk.injEq] at h
   exact ⟨[], h.1⟩
 | w :: ws, j, i, e, kind, wants, n, h4, h => by
   simp only [kidsLoop] at h
   have hw : w ≠ 4 := h4 w (by simp)
   rw [if_neg (fun hh => hw hh.1)] at h
   cases hr : rowV P l f i w with
   | none => simp [hr] at h
   | some en =>
     obtain ⟨e2, n2⟩ := en
     simp only [hr] at h
     obtain ⟨sp, hk⟩ := loop_kids hrow k ws _ _ _ _ _ _ (fun w' hw' => h4 w' (by simp [hw'])) h
     exact ⟨(i, e2) :: sp, rfl, hrow _ _ _ _ hr, hk⟩
theorem loop_kids2 {f : Nat} (hrow : ∀ what i e n, rowV P l f i what = some (e, n) → Wf P l (f + 1) what i e) {k : Int} {i e : Nat} {n : Int} (h : kidsLoop l (rowV P l f) k [4, 4] 0 i 0 0 = some (e, n)) :
   ∃ sp, Kids (Wf P l (f + 1)) [4, typeV ((l[i]?.map Ac.k).getD 0)] i sp e := by
 simp only [kidsLoop] at h
 rw [if_neg (by simp)] at h
 cases hr : rowV P l f i 4 with
 | none => simp [hr] at h
 | some en =>
   obtain ⟨e2, n2⟩ := en
   simp only [hr] at h
   rw [if_pos (by simp)] at h
   cases hr2 : rowV P l f e2 (typeV ((l[i]?.map Ac.k).getD 0)) with
   | none => simp [hr2] at h
   | some en2 =>
     obtain ⟨e3, n3⟩ := en2
     simp only [hr2, Option.some.injEq, Prod.mk.injEq] at h
     exact ⟨[(i, e2), (e2, e3)], rfl, hrow _ _ _ _ hr, rfl, hrow _ _ _ _ hr2, h.1⟩
theorem kidsV_four {k n : Int} (h : k ≠ 34) : ∀ w ∈ kidsV k n, w ≠ 4 := by
 intro w hw
 unfold kidsV at hw
 (repeat' split at hw) <;> simp at hw <;> omega
theorem wf_of_row : ∀ (f : Nat) (what : Int) (i e : Nat) (n : Int), rowV P l f i what = some (e, n) → Wf P l (f + 1) what i e
 | 0, what, i, e, n, h => by simp [rowV] at h
 | f + 1, what, i, e, n, h => by
   have hrow := wf_of_row f
   unfold rowV at h
   cases hx : l[i]? with
   | none => simp [hx] at h
   | some x =>
     simp only [hx] at h
     split at h
     · next hg =>
       simp only [Bool.and_eq_true] at hg
       split at h
       · next hk =>
         split at h
         · cases h
         · next hn =>
           cases hb : blockLoop P l (rowV P l f) x.n.toNat (i + 1) with
           | none => simp [hb] at h
           | some e2 =>
             simp only [hb, Option.map_some, Option.some.injEq, Prod.mk.injEq] at h
             obtain ⟨rfl, _⟩ := h
             obtain ⟨sp, h1, h2⟩ := block_kids hrow _ _ _ hb
             exact ⟨x, sp, hx, hg.1, hg.2, by omega, fun h9 => absurd hk h9, by unfold wantsV; rw [if_pos hk]; exact h1, fun _ => h2⟩
       · next hk =>
         split at h
         · cases h
         · next hn =>
           have hn2 : x.n = ((kidsV x.k x.n).length : Int) := by simpa using hn
           cases hb : kidsLoop l (rowV P l f) x.k (kidsV x.k x.n) 0 (i + 1) 0 0 with
           | none => simp [hb] at h
           | some en =>
             obtain ⟨e2, n2⟩ := en
             simp only [hb] at h
             split at h
             · simp only [Option.some.injEq, Prod.mk.injEq] at h
               obtain ⟨rfl, _⟩ := h
               by_cases h34 : x.k = 34
               · have hkv : kidsV x.k x.n = [4, 4] := by rw [h34]; rfl
                 rw [hkv] at hb
                 obtain ⟨sp, h1⟩ := loop_kids2 hrow hb
                 exact ⟨x, sp, hx, hg.1, hg.2, by omega, fun _ => hn2, by unfold wantsV; rw [if_neg hk, if_pos h34]; exact h1, fun h9 => absurd h9 hk⟩
               · obtain ⟨sp, h1⟩ := loop_kids hrow x.k _ _ _ _ _ _ _ (kidsV_four h34) hb
                 exact ⟨x, sp, hx, hg.1, hg.2, by omega, fun _ => hn2, by unfold wantsV; rw [if_neg hk, if_neg h34]; exact h1, fun h9 => absurd h9 hk⟩
             · cases h
     · cases h
/-! spans -/
theorem kids_le {R : Int → Nat → Nat → Prop} (hR : ∀ w i e, R w i e → i < e ∧ e ≤ l.length) : ∀ (ws : List Int) (i : Nat) (sp : List (Nat × Nat)) (e : Nat), Kids R ws i sp e → i ≤ l.length → i ≤ e ∧ e ≤ l.length
 | [], i, [], e, h, hi => by
   simp only [Kids] at h
   omega
 | w :: ws, i, r :: sp, e, h, hi => by
   obtain ⟨h1, h2, h3⟩ := h
   have := hR _ _ _ h2
   have := kids_le hR ws _ sp e h3 this.2
   omega
 | [], i, r :: sp, e, h, _ => by simp [Kids] at h
 | w :: ws, i, [], e, h, _ => by simp [Kids] at h
theorem wf_le : ∀ (f : Nat) (what : Int) (i e : Nat), Wf P l f what i e → i < e ∧ e ≤ l.length
 | 0, what, i, e, h => h.elim
 | f + 1, what, i, e, ⟨x, sp, hx, _, _, _, _, hk, _⟩ => by
   have := (List.getElem?_eq_some_iff.1 hx).1
   have := kids_le (wf_le f) _ _ _ _ hk (by omega)
   omega
theorem kids_length {R : Int → Nat → Nat → Prop} : ∀ (ws : List Int) (i : Nat) (sp : List (Nat × Nat)) (e : Nat), Kids R ws i sp e → sp.length = ws.length
 | [], i, [], e, h => rfl
 | w :: ws, i, r :: sp, e, h => by simp [kids_length ws _ sp e h.2.2]
 | [], i, r :: sp, e, h => by simp [Kids] at h
 | w :: ws, i, [], e, h => by simp [Kids] at h
theorem wants_length {x : Ac} {k0 : Int} (h0 : 0 ≤ x.n) (h1 : x.k ≠ 1 → x.n = ((kidsV x.k x.n).length : Int)) : ((wantsV x k0).length : Int) = x.n := by
 unfold wantsV
 split
 · simp; omega
 · next h2 =>
   split
   · next h3 =>
     rw [h1 h2, h3]
     rfl
   · exact (h1 h2).symm
theorem kids_end {R : Int → Nat → Nat → Prop} (hR : ∀ w i e, R w i e → ∀ b : Nat, endS l i (1 + (b : Int)) = endS l e b) : ∀ (ws : List Int) (i : Nat) (sp : List (Nat × Nat)) (e : Nat), Kids R ws i sp e → ∀ b : Nat, endS l i ((ws.length : Int) + (b : Int)) = endS l e b
 | [], i, [], e, h, b => by
   simp only [Kids] at h
   subst h
   simp
 | w :: ws, i, r :: sp, e, h, b => by
   obtain ⟨rfl, h2, h3⟩ := h
   have h4 := hR _ _ _ h2 (ws.length + b)
   have h5 := kids_end hR ws _ sp e h3 b
   rw [← h5, List.length_cons]
   rw [show (((ws.length + 1 : Nat) : Int) + (b : Int)) = 1 + ((ws.length + b : Nat) : Int) by omega, h4]
   congr 1
 | [], i, r :: sp, e, h, _ => by simp [Kids] at h
 | w :: ws, i, [], e, h, _ => by simp [Kids] at h
theorem wf_end : ∀ (f : Nat) (what : Int) (i e : Nat), Wf P l f what i e → ∀ b : Nat, endS l i (1 + (b : Int)) = endS l e b
 | 0, what, i, e, h, b => h.elim
 | f + 1, what, i, e, ⟨x, sp, hx, _, _, h0, hn, hk, _⟩, b => by
   rw [endS_step (by omega) hx]
   have h1 := kids_end (wf_end f) _ _ _ _ hk b
   rw [wants_length h0 hn] at h1
   rw [← h1]
   congr 1
   omega
theorem wf_end1 {f : Nat} {what : Int} {i e : Nat} (h : Wf P l f what i e) : endS l i 1 = some e := by
 have h1 := wf_end f what i e h 0
 rw [endS_stop (i := e) (left := ((0 : Nat) : Int)) (by simp)] at h1
 exact h1
theorem kids_kidsS {R : Int → Nat → Nat → Prop} (hR : ∀ w i e, R w i e → endS l i 1 = some e) : ∀ (ws : List Int) (i : Nat) (sp : List (Nat × Nat)) (e : Nat), Kids R ws i sp e → kidsS l ws.length i = some sp
 | [], i, [], e, h => rfl
 | w :: ws, i, r :: sp, e, h => by
   obtain ⟨rfl, h2, h3⟩ := h
   simp only [List.length_cons, kidsS, hR _ _ _ h2, kids_kidsS hR ws _ sp e h3, Option.map_some]
 | [], i, r :: sp, e, h => by simp [Kids] at h
 | w :: ws, i, [], e, h => by simp [Kids] at h
theorem kids_in {R : Int → Nat → Nat → Prop} (hR : ∀ w i e, R w i e → i < e) : ∀ (ws : List Int) (i : Nat) (sp : List (Nat × Nat)) (e : Nat), Kids R ws i sp e → ∀ j, i ≤ j → j < e → ∃ w r, r ∈ sp ∧ R w r.1 r.2 ∧ r.1 ≤ j ∧ j < r.2 ∧ r.2 ≤ e
 | [], i, [], e, h, j, h1, h2 => by
   simp only [Kids] at h
   omega
 | w :: ws, i, r :: sp, e, h, j, h1, h2 => by
   obtain ⟨rfl, h3, h4⟩ := h
   rcases Nat.lt_or_ge j r.2 with h5 | h5
   · refine ⟨w, r, by simp, h3, h1, h5, ?_⟩
     clear h5
     have : ∀ (ws : List Int) (i : Nat) (sp : List (Nat × Nat)) (e : Nat), Kids R ws i sp e → i ≤ e := by
       intro ws
       induction ws with
       | nil =>
         intro i sp e h
         cases sp with
         | nil => simp only [Kids] at h; omega
         | cons => simp [Kids] at h
       | cons w ws ih =>
         intro i sp e h
         cases sp with
         | nil => simp [Kids] at h
         | cons r sp =>
           obtain ⟨rfl, a1, a2⟩ := h
           have := hR _ _ _ a1
           have := ih _ _ _ a2
           omega
     exact this _ _ _ _ h4
   · obtain ⟨w', r', a1, a2, a3, a4, a5⟩ := kids_in hR ws _ sp e h4 j h5 h2
     exact ⟨w', r', by simp [a1], a2, a3, a4, a5⟩
 | [], i, r :: sp, e, h, j, _, _ => by simp [Kids] at h
 | w :: ws, i, [], e, h, j, _, _ => by simp [Kids] at h
/-- every row of a tree is a tree -/
theorem wf_in : ∀ (f : Nat) (what : Int) (i e : Nat), Wf P l f what i e → ∀ j, i ≤ j → j < e → ∃ f' what' e', Wf P l f' what' j e' ∧ e' ≤ e
 | 0, what, i, e, h, j, _, _ => h.elim
 | f + 1, what, i, e, h, j, h1, h2 => by
   rcases Nat.eq_or_lt_of_le h1 with rfl | h3
   · exact ⟨f + 1, what, e, h, Nat.le_refl _⟩
   · obtain ⟨x, sp, hx, _, _, h0, hn, hk, _⟩ := h
     obtain ⟨w, r, a1, a2, a3, a4, a5⟩ := kids_in (fun w i e h => (wf_le f w i e h).1) _ _ _ _ hk j h3 h2
     obtain ⟨f', what', e', b1, b2⟩ := wf_in f w r.1 r.2 a2 j a3 a4
     exact ⟨f', what', e', b1, by omega⟩
/-- a right event's rows are a tree -/
theorem wf_event (h : eventV P l = true) (h0 : l ≠ []) : Wf P l (l.length + 2) 1 0 l.length := by
 unfold eventV at h
 have h1 : l.isEmpty = false := by simpa using h0
 rw [h1, Bool.false_or] at h
 cases hr : rowV P l (l.length + 1) 0 1 with
 | none => simp [hr] at h
 | some en =>
   obtain ⟨e, n⟩ := en
   simp only [hr, decide_eq_true_eq] at h
   have h2 := wf_of_row _ _ _ _ _ hr
   have h3 := wf_le _ _ _ _ h2
   obtain rfl : e = l.length := by omega
   exact h2
end
end Go.Proofs.Ytdpokdcendgfeaa
namespace Go.Proofs.Ytdpokdcendgfeaa
open Go.RowKit
/-- the instruction of an act that has the act's numbers -/
def plainV (k : Int) : Int × Bool := if 6 ≤ k ∧ k ≤ 16 then (k + 25, true) else if 19 ≤ k ∧ k ≤ 22 then (k - 18, true) else if k = 23 then (7, true) else if k = 24 then (8, true) else (0, false)
/-- the instruction that comes behind the kids -/
def behindV (k : Int) : Int := if 26 ≤ k ∧ k ≤ 36 then k - 15 else 28
end Go.Proofs.Ytdpokdcendgfeaa
namespace Go.Proofs.Ytdpokdcendgfeaa
/-- an instruction -/
structure In where
 (o a b c d : Int)
deriving DecidableEq
/-- an instruction under way: its row, and where it goes on, if that is told later -/
structure Cd where
 i : In
 row : Nat
 to : Option Nat
def sayC (o a b c d : Int) (row : Nat) : Cd := ⟨⟨o, a, b, c, d⟩, row, none⟩
def jmpC (o : Int) (row to : Nat) : Cd := ⟨⟨o, 0, 0, 0, 0⟩, row, some to⟩
def itemC (row : Nat) (y : Ac) (tag x e : Int) : Cd := if y.k = 17 then sayC x tag 0 0 0 row else sayC e y.a y.b tag 0 row
def seqC (g : Nat → Nat → List Cd) : List Nat → Nat → List Cd
 | [], _ => []
 | k :: ks, c => g k c ++ seqC g ks (c + (g k c).length)
/-- an RIf's code -/
def ifC (g : Nat → Nat → List Cd) (i : Nat) (k : List Nat) (c : Nat) : List Cd :=
 match k with
 | [a, b] =>
   let m := g a c
   let n := g b (c + m.length + 1)
   m ++ jmpC 23 i (c + m.length + 1 + n.length) :: n
 | [a, b, d] =>
   let m := g a c
   let n := g b (c + m.length + 1)
   let o := g d (c + m.length + 1 + n.length + 1)
   m ++ jmpC 23 i (c + m.length + 1 + n.length + 1) :: (n ++ jmpC 22 i (c + m.length + 1 + n.length + 1 + o.length) :: o)
 | _ => []
/-- an RLoop's -/
def loopC (g : Nat → Nat → List Cd) (i : Nat) (x : Ac) (k : List Nat) (c : Nat) : List Cd :=
 match k with
 | [a, b] =>
   let m := g a (c + 2)
   let n := g b (c + 2 + m.length + 1)
   let e := c + 2 + m.length + 1 + n.length + 1
   sayC 24 x.a 0 0 0 i :: jmpC 25 i e :: (m ++ jmpC 26 i e :: (n ++ [sayC 27 ((c : Int) + 1) 0 0 0 i]))
 | _ => []
/-- an RAnd's -/
def andC (g : Nat → Nat → List Cd) (i : Nat) (k : List Nat) (c : Nat) : List Cd :=
 match k with
 | [a, b] =>
   let m := g a c
   let n := g b (c + m.length + 1)
   let f := c + m.length + 1 + n.length + 1
   m ++ jmpC 23 i f :: (n ++ [jmpC 22 i (f + 1), sayC 2 0 0 0 0 i])
 | _ => []
/-- an ROr's -/
def orC (g : Nat → Nat → List Cd) (i : Nat) (k : List Nat) (c : Nat) : List Cd :=
 match k with
 | [a, b] =>
   let m := g a c
   let f := c + m.length + 1 + 1 + 1
   let n := g b f
   m ++ jmpC 23 i f :: sayC 2 1 0 0 0 i :: jmpC 22 i (f + n.length) :: n
 | _ => []
def kidsC (l : List Ac) (i : Nat) (x : Ac) : List Nat := ((kidsS l x.n.toNat (i + 1)).getD []).map Prod.fst
/-- a row's code, from the place c on -/
def actC (l : List Ac) : Nat → Nat → Nat → List Cd
 | 0, _, _ => []
 | f + 1, i, c =>
   match l[i]? with
   | none => []
   | some x =>
     if (plainV x.k).2 = true then [sayC (plainV x.k).1 x.a x.b x.c x.d i] else
     let k := kidsC l i x
     let g := actC l f
     if x.k = 1 then seqC g k c
     else if x.k = 2 then ifC g i k c
     else if x.k = 3 then loopC g i x k c
     else if x.k = 5 then (let m := g (k[1]?.getD 0) c; m ++ [itemC i ((l[k[0]?.getD 0]?).getD ⟨0, 0, 0, 0, 0, 0⟩) x.a 29 30])
     else if x.k = 25 then [itemC i ((l[k[0]?.getD 0]?).getD ⟨0, 0, 0, 0, 0, 0⟩) x.a 9 10]
     else if x.k = 37 then andC g i k c
     else if x.k = 38 then orC g i k c
     else (let m := seqC g k c; m ++ [sayC (behindV x.k) x.a 0 0 0 i])
def Cd.fin (x : Cd) : In := match x.to with | none => x.i | some t => { x.i with a := (t : Int) }
/-- an event's code -/
def evC (l : List Ac) : List Cd := actC l (l.length + 2) 0 0 ++ [sayC 0 0 0 0 0 0]
/-- an instruction in its place -/
def relC (at_ : Nat) (x : In) : In := if x.o = 22 ∨ x.o = 23 ∨ x.o = 25 ∨ x.o = 26 ∨ x.o = 27 then { x with a := x.a + (at_ : Int) } else x
/-- a program under way: where the events begin; the code, and what it stands for -/
structure Mk where
 on : List Int
 cd : List In
 ev : List Int
 rw : List Int
def Mk.add (m : Mk) (n : Int) (l : List Ac) : Mk × Int :=
 if l.isEmpty then (m, -1) else ({ m with cd := m.cd ++ (evC l).map (fun x => relC m.cd.length x.fin), ev := m.ev ++ List.replicate (evC l).length n, rw := m.rw ++ (evC l).map (fun x => (x.row : Int)) }, (m.cd.length : Int))
end Go.Proofs.Ytdpokdcendgfeaa
namespace Go.Proofs.Ytdpokdcendgfeaa
open Go.RowKit
/-- ends, from the place m on -/
def endsF (l : List Ac) (m : Nat) : List Int := (List.range l.length).map fun j => if m ≤ j then (((endS l j 1).getD 0 : Nat) : Int) else 0
theorem run_make_rowN {P : Program} (t e : TypeId) (i : TypeInfo) (z : Value) (ht : P.underlying t = some (.slice e)) (hi : P.info? e = some i) (hz : i.zero = some z)
   (kl kc : IntKind) (n c : Nat) (hnc : n ≤ c) (hbytes : i.bytes * c ≤ 281474976710656) (h63 : c ≤ 9223372036854775807) (w : World) :
   (Instr.makeSlice t (.int kl (n : Int)) (.int kc (c : Int))).run P w = .ok (.slice (some ⟨w.heap.size, 0, none⟩) n c) (w.alloc (.cells (madeCells z.cells (c * i.size)) e)) := by
 have hb : (i.bytes : Int) * (c : Int) ≤ 281474976710656 := by
   have h : ((i.bytes * c : Nat) : Int) ≤ 281474976710656 := by omega
   rwa [Int.natCast_mul] at h
 have hr := run_make (P := P) w t e i z ht hi hz kl kc n c (by omega) (by omega) hb (by omega)
 simp only [Int.toNat_natCast] at hr
 exact hr
theorem made_ints (n : Nat) : madeCells #[.int .i64 0] (n * 1) = (ints (List.replicate n 0)).toArray := by
 apply Array.ext_getElem?
 intro j
 by_cases hj : j < n
 · simp [madeCells, ints, hj, Nat.mod_one]
 · simp [madeCells, ints, hj]
theorem make_ints (w : World) (n : Nat) (h : n ≤ 4194304) : (Instr.makeSlice 24 (.int .i64 (n : Int)) (.int .i64 (n : Int))).run Try.prog w = .ok (.slice (some ⟨w.heap.size, 0, none⟩) n n) (w.alloc (.cells (ints (List.replicate n 0)).toArray 3)) := by
 obtain ⟨i0, hi, hz0, hz1, hz2⟩ := info_parts3 infI
 have := run_make_rowN (P := Try.prog) 24 3 i0 (.int .i64 0) Try.underlying24 hi hz0 .i64 .i64 n n (Nat.le_refl _) (by rw [hz2]; omega) (by omega) w
 rw [hz1, show (Value.int IntKind.i64 0).cells = #[.int .i64 0] from rfl, made_ints] at this
 exact this
theorem ints_get {l : List Int} {j : Nat} {x : Int} (h : l[j]? = some x) : (ints l)[j]? = some (.int .i64 x) := by simp [ints, h]
theorem ints_set (l : List Int) (j : Nat) (x : Int) : (ints l).toArray.setIfInBounds j (.int .i64 x) = (ints (l.set j x)).toArray := by simp [ints, List.map_set]
theorem blk_int {W : World} {g : Nat} {l : List Int} {t : TypeId} (h : Blk W g t (ints l).toArray) {j : Nat} {x : Int} (hj : l[j]? = some x) : W.cell? ⟨g, j, none⟩ = some (.int .i64 x) := by
 rw [h.cell]
 simpa using ints_get hj
end Go.Proofs.Ytdpokdcendgfeaa
