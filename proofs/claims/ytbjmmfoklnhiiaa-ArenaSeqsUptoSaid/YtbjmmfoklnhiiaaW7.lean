/- The walk of Move at int, and what an append does to the nodes. Conditions: the bounds that are named. -/
import Derived.Test.YtbjmmfoklnhiiaaW6
import Derived.Maps.AppendAt
namespace Go.Proofs.Ytbjmmfoklnhiiaa
open Go.RowKit

theorem eI_eB {e : Int} (h : e = 0 ∨ e = 1) : eI (eB e) = e := by rcases h with rfl | rfl <;> rfl

section
variable (w : World) (f : Fp) (s : ASt Int) (h : AMem Ki w f s) (hb : s.Bd)
include h hb
theorem move_i (n l e : Int) : Calls Try.prog 23 #[.pointer (some ⟨f.ab, 0, none⟩), .int .i64 n, .int .i64 l, .int .i64 e] w fun en w' => en = .returned (.int .i64 (s.moveE n l e)) ∧
    AMem Ki w' f (s.move n l e) ∧ Only f.has w w' := by
  have hc := holds_i w f s h n
  have hi := is_i w f s h l e
  rcases holds_cases s n with hv | hv | hv <;> rw [hv] at hc
  · obtain ⟨h0, h1, h2, h3⟩ := holds_ok hv
    cases hw : s.isB l e <;> rw [hw] at hi
    · have hr : s.moveE n l e = 1 := by unfold ASt.moveE; rw [if_pos (.inr hw)]
      unfold ASt.move
      rw [hr, if_neg (by decide)]
      have HC := hide hc
      have HI := hide hi
      have HM := hide h
      clear hc h hv hb hr hi hw
      go_enter Try.func23, Try.ntmps23
      go_wp2_with (first | (go_at_call 50; refine HC.out.mono ?_; rintro en w' ⟨rfl, rfl⟩) | (go_at_call 51; refine HI.out.mono ?_; rintro en w' ⟨rfl, rfl⟩))
      go_ret
      exact ⟨rfl, HM.out, Only.refl _ _⟩
    · obtain ⟨h4, h5, h6⟩ := isB_ok hw
      have hr : s.moveE n l e = 0 := by unfold ASt.moveE; rw [if_neg (by rw [hv, hw]; decide), hv]
      unfold ASt.move
      rw [hr, if_pos rfl]
      have hcut := cut_i w f s h n h0 h2 h3 (hb.inL hv) (hb.inB hv) (hb.inC hv).1 (hb.inC hv).2 hb.made22
      have hl : l.toNat < s.L := by omega
      have hE := hb.cutE hv (eB e) hl
      have hC := hb.cutC hv hl
      have hlink := fun w1 (hM : AMem Ki w1 f (s.cut n.toNat)) => link_i w1 f (s.cut n.toNat) hM n l (eB e) h0 (by rw [cut_made]; exact h2) h4 (by rw [cut_L]; exact h5) hE.1
        (by rw [cut_made]; exact hE.2.1) hC.1 hC.2 (by rw [cut_made]; exact hb.made22) hE.2.2
      rw [eI_eB h6] at hlink
      have HC := hide hc
      have HI := hide hi
      have HK := hide hcut
      have HL := hide hlink
      clear hc h hv hb hr hi hw hcut hlink hE hC
      go_enter Try.func23, Try.ntmps23
      go_wp2_with (first | (go_at_call 50; refine HC.out.mono ?_; rintro en w' ⟨rfl, rfl⟩) | (go_at_call 51; refine HI.out.mono ?_; rintro en w' ⟨rfl, rfl⟩) | (go_at_call 52; refine HK.out.mono ?_; rintro en w' ⟨rfl, hM, hO⟩) | (go_at_call 53; refine (HL.out _ hM).mono ?_; rintro en w'' ⟨rfl, hM2, hO2⟩))
      go_ret
      exact ⟨rfl, hM2, hO.trans hO2⟩
  · have hr : s.moveE n l e = 1 := by unfold ASt.moveE; rw [if_pos (.inl hv)]
    unfold ASt.move
    rw [hr, if_neg (by decide)]
    have HC := hide hc
    have HM := hide h
    clear hc h hv hb hr hi
    go_enter Try.func23, Try.ntmps23
    go_wp2_with (go_at_call 50; refine HC.out.mono ?_; rintro en w' ⟨rfl, rfl⟩)
    go_ret
    exact ⟨rfl, HM.out, Only.refl _ _⟩
  · cases hw : s.isB l e <;> rw [hw] at hi
    · have hr : s.moveE n l e = 1 := by unfold ASt.moveE; rw [if_pos (.inr hw)]
      unfold ASt.move
      rw [hr, if_neg (by decide)]
      have HC := hide hc
      have HI := hide hi
      have HM := hide h
      clear hc h hv hb hr hi hw
      go_enter Try.func23, Try.ntmps23
      go_wp2_with (first | (go_at_call 50; refine HC.out.mono ?_; rintro en w' ⟨rfl, rfl⟩) | (go_at_call 51; refine HI.out.mono ?_; rintro en w' ⟨rfl, rfl⟩))
      go_ret
      exact ⟨rfl, HM.out, Only.refl _ _⟩
    · have hr : s.moveE n l e = 53 := by unfold ASt.moveE; rw [if_neg (by rw [hv, hw]; decide), hv]
      unfold ASt.move
      rw [hr, if_neg (by decide)]
      have HC := hide hc
      have HI := hide hi
      have HM := hide h
      clear hc h hv hb hr hi hw
      go_enter Try.func23, Try.ntmps23
      go_wp2_with (first | (go_at_call 50; refine HC.out.mono ?_; rintro en w' ⟨rfl, rfl⟩) | (go_at_call 51; refine HI.out.mono ?_; rintro en w' ⟨rfl, rfl⟩))
      go_ret
      exact ⟨rfl, HM.out, Only.refl _ _⟩
end

theorem own_drewN {w : World} {base : Nat} {e : TypeId} {size : Nat} {v : Value} {n : Nat} {xs : List Value} (h : w.ownsRow base e size v n xs) (k : Nat) : (w.drewN k).ownsRow base e size v n xs := h

/-- the header's word for the nodes is turned, behind an append -/
theorem AMem.grew {α : Type} {K : Kn α} {w w1 : World} {f : Fp} {s : ASt α} {z : α} {nv v' lv : Value} (hK : K.ok)
    (hb : Blk w f.ab K.tA (headRow s nv lv)) (ho : Sl w K.tN (K.vw + 3) nv s.made (rows (nodeRow K s) s.made) f.gb f.ab)
    (hl : Sl w K.tL 3 lv s.L (rows (listRow s) s.L) f.lb f.ab) (hown : w1.ownsRow 0 K.tN (K.vw + 3) v' (s.made + 1) (rows (nodeRow K s) s.made ++ (K.enc z ++ [.int .i64 0, .int .i64 0, .int .i64 0])))
    (hgr : w.grownBy w1 nv.ownBlock) (hat : v'.ownBlock = nv.ownBlock ∨ v'.ownBlock = some w.heap.size) :
    ∃ g' cap, v' = .slice (some ⟨g', 0, none⟩) (s.made + 1) cap ∧ AMem K (w1.setCell ⟨f.ab, 1, none⟩ v') { f with gb := g' } (s.grow z) ∧ Only f.has w (w1.setCell ⟨f.ab, 1, none⟩ v') ∧
      (g' = f.gb ∨ w.heap.size ≤ g') ∧ Blk w1 f.ab K.tA (headRow s nv lv) ∧ ¬ f.ab = g' ∧
      (∀ j, j < K.vw + 3 → w1.cell? ⟨g', s.made * (K.vw + 3) + j, none⟩ = (K.enc z ++ [.int .i64 0, .int .i64 0, .int .i64 0])[j]?) ∧ ∀ i, w1.frozen? ⟨g', i, none⟩ = false := by
  obtain ⟨g', cap, hv', hc1, hc2⟩ := own_form hown (by omega)
  have hna : nv.ownBlock ≠ some f.ab := own_blk_ne ho.1 hb (fun e => hK.an e.symm)
  have hla : lv.ownBlock ≠ some f.ab := own_blk_ne hl.1 hb (fun e => hK.al e.symm)
  have hnl : lv.ownBlock = none ∨ lv.ownBlock ≠ nv.ownBlock := by
    cases hv : nv.ownBlock with
    | none => cases lv.ownBlock <;> simp
    | some k => exact .inr (own_own_ne ho.1 hl.1 hK.nl hv)
  have hb1 := hb.grown hgr (fun e => hna e.symm)
  have hl1 : Sl w1 K.tL 3 lv s.L (rows (listRow s) s.L) f.lb f.ab := ⟨hl.1.kept hgr hnl, hl.2⟩
  have hva : v'.ownBlock ≠ some f.ab := own_blk_ne hown hb1 (fun e => hK.an e.symm)
  have hob : v'.ownBlock = some g' := by rw [hv']; rfl
  refine ⟨g', cap, hv', ⟨v', lv, ?_, ⟨?_, .inl hob⟩, ?_⟩, ?_, ?_, hb1, fun e => hva (by rw [hob, e]), ?_, ?_⟩
  · have := hb1.set_ 1 v'
    simpa [headRow, ASt.grow] using this
  · have h1 := own_far (p := ⟨f.ab, 1, none⟩) hown hva v'
    have e : rows (nodeRow K (s.grow z)) (s.grow z).made = rows (nodeRow K s) s.made ++ (K.enc z ++ [.int .i64 0, .int .i64 0, .int .i64 0]) := by
      show rows (nodeRow K (s.grow z)) (s.made + 1) = _
      rw [rows]
      congr 1
      · exact rows_congr _ fun i hi => by simp [nodeRow, ASt.grow, upd, show i ≠ s.made from by omega]
      · simp [nodeRow, ASt.grow, upd]
    rw [e]
    exact h1
  · have e : rows (listRow (s.grow z)) (s.grow z).L = rows (listRow s) s.L := rfl
    rw [e]
    exact hl1.far (p := ⟨f.ab, 1, none⟩) hla v'
  · refine Only.setCell ((Only.refl _ w).grown hgr ?_) (.inl (.inl rfl)) _
    intro k hk
    rcases ho.2 with hg | ⟨hg, _⟩
    · rw [hg] at hk; injection hk with hk; exact .inl (.inr (.inl hk.symm))
    · rw [hg] at hk; cases hk
  · rcases hat with hat | hat
    · rw [hob] at hat
      rcases ho.2 with hg | ⟨hg, _⟩
      · rw [hg] at hat; injection hat with hat; exact .inl hat
      · rw [hg] at hat; cases hat
    · rw [hob] at hat; injection hat with hat; exact .inr (by omega)
  · intro j hj
    have hl2 : (rows (nodeRow K s) s.made).length = s.made * (K.vw + 3) := rows_length (nodeRow_length hK s) _
    rw [hv'] at hown
    rw [hown.cellAt _ (by rw [Nat.add_mul]; omega), List.getElem?_append_right (by omega), hl2]
    congr 1; omega
  · intro i
    rw [hv'] at hown
    exact hown.frozenAt i
theorem Sl.drewN {w : World} {t : TypeId} {sz n g ab : Nat} {v : Value} {xs : List Value} (h : Sl w t sz v n xs g ab) (k : Nat) : Sl (w.drewN k) t sz v n xs g ab := h
theorem Sl.alloc {w : World} {t : TypeId} {sz n g ab : Nat} {v : Value} {xs : List Value} (h : Sl w t sz v n xs g ab) (o : Obj) : Sl (w.alloc o) t sz v n xs g ab := ⟨h.1.alloc o, h.2⟩
end Go.Proofs.Ytbjmmfoklnhiiaa
