/- The walk of Push at int. Conditions: the bounds that are named. -/
import Derived.Test.YtbjmmfoklnhiiaaW7
namespace Go.Proofs.Ytbjmmfoklnhiiaa
open Go.RowKit

theorem cells_new (w : World) (cs : List Value) (t : TypeId) : ∀ j u, cs[j]? = some u → (w.alloc (.cells cs.toArray t)).cell? ((⟨w.heap.size, 0, none⟩ : Addr).add j) = some u := by
  intro j u hu
  have hadd : (⟨w.heap.size, 0, none⟩ : Addr).add j = ⟨w.heap.size, j, none⟩ := by unfold Addr.add; split <;> simp_all
  rw [hadd, (Blk.new w t cs.toArray).cell]
  simpa using hu

theorem info73 : (Try.prog.info? 73).map (fun i => (i.zero, i.size, i.bytes)) = some (some (.agg #[.int .i64 0, .int .i64 0, .int .i64 0, .int .i64 0]), 4, 32) := by kernel_rfl

def ASt.pushR {α : Type} (s : ASt α) (l e : Int) : Int := if s.pushE l e = 0 then s.pushN else 0

section
variable (w : World) (f : Fp) (s : ASt Int) (h : AMem Ki w f s) (hb : s.Bd)
include h hb
set_option maxRecDepth 100000 in
set_option maxHeartbeats 1000000 in
theorem push_i (l e v : Int) : Calls Try.prog 25 #[.pointer (some ⟨f.ab, 0, none⟩), .int .i64 l, .int .i64 e, .int .i64 v] w fun en w' =>
    en = .returned (.tuple #[.int .i64 (s.pushR l e), .int .i64 (s.pushE l e)]) ∧
    ∃ g', AMem Ki w' { f with gb := g' } (s.push 0 l e v) ∧ Only f.has w w' ∧ (g' = f.gb ∨ w.heap.size ≤ g') := by
  unfold ASt.pushR
  have hi := is_i w f s h l e
  obtain ⟨e1, e2, e3, e4, e5, e6⟩ := h.head
  have hu0 := hb.u0
  have hum := hb.um
  have hmm := hb.mm
  have hm22 := hb.m22
  cases hw : s.isB l e <;> rw [hw] at hi
  · have hr : s.pushE l e = 1 := by unfold ASt.pushE; rw [if_pos hw]
    unfold ASt.push
    rw [hr, if_neg (by decide), if_neg (by decide)]
    have HI := hide hi
    have HM := hide h
    clear h hb hr hi hw
    go_enter Try.func25, Try.ntmps25
    go_wp2_with (go_at_call 51; refine HI.out.mono ?_; rintro en w' ⟨rfl, rfl⟩)
    go_ret2
    exact ⟨rfl, _, HM.out, Only.refl _ _, .inl rfl⟩
  · obtain ⟨h4, h5, h6⟩ := isB_ok hw
    have HI := hide hi
    by_cases hfull : s.used = s.most
    · have hr : s.pushE l e = 51 := by unfold ASt.pushE; rw [if_neg (by rw [hw]; decide), if_pos hfull]
      unfold ASt.push
      rw [hr, if_neg (by decide), if_neg (by decide)]
      have HM := hide h
      have hf : (s.used == (s.most : Int)) = true := by simp [hfull]
      clear h hb hr hi hw hfull
      go_enter Try.func25, Try.ntmps25
      go_wp2_with (go_at_call 51; refine HI.out.mono ?_; rintro en w' ⟨rfl, rfl⟩)
      go_quiet (fail)
      go_wp2
      go_ret2
      exact ⟨rfl, _, HM.out.drewN _, (Only.refl _ _).drewN _, .inl rfl⟩
    · have hr : s.pushE l e = 0 := by unfold ASt.pushE; rw [if_neg (by rw [hw]; decide), if_neg hfull]
      unfold ASt.push
      rw [hr, if_pos rfl, if_pos rfl]
      have hf : (s.used == (s.most : Int)) = false := by simp [hfull]
      by_cases hfr : 0 ≤ s.freed
      · obtain ⟨m, hm⟩ := Int.eq_ofNat_of_zero_le hfr
        have hN : s.pushN = m := by unfold ASt.pushN; rw [if_neg (by omega), hm]
        have hS : s.pushS 0 = s.setFr (s.B false m) := by unfold ASt.pushS; rw [if_neg (by omega), hm, Int.toNat_natCast]
        have hS2 : s.pushOk 0 l.toNat (eB e) v = (((s.setFr (s.B false m)).setV m v).link m l.toNat (eB e)).setUs (s.used + 1) := by unfold ASt.pushOk; rw [hN, hS, Int.toNat_natCast]
        rw [hN, hS2]
        have hfb := hb.fr
        have hfn := hb.frn hfr
        rw [hm, Int.toNat_natCast] at hfn
        have hm' : m < s.made := by omega
        have hag := h.ne_ag Ki_ok (by omega)
        have hga : ¬ f.gb = f.ab := fun e => hag e.symm
        obtain ⟨cap, _, _, hnodes, _⟩ := h.nodes (by omega)
        obtain ⟨c1, c2, c3, c4, g1, g2, g3, g4⟩ := node_i h hm'
        have hM := fun k => iV (n := m) (iFr (h.drewN k) (s.B false m)) hm' v
        have hne : ¬ s.E (eB e) l.toNat = m := by
          intro hE
          have he := (hb.ends (eB e) (show l.toNat < s.L by omega)).2.2 (by omega)
          have := (holds_ok he).2.2.2
          rw [hE, Int.toNat_natCast] at this
          omega
        have hlk := fun k => link_i _ _ _ (hM k) m l (eB e) (by omega) (by show (m : Int) < s.made; omega) h4 h5
             (hb.ends (eB e) (show l.toNat < s.L by omega)).1 (hb.ends (eB e) (show l.toNat < s.L by omega)).2.1
             (hb.cnt (show l.toNat < s.L by omega)).1 (hb.cnt (show l.toNat < s.L by omega)).2 hb.made22 hne
        simp only [eI_eB h6, Int.toNat_natCast] at hlk
        have HLK := hide hlk
        rw [hm] at e2
        clear h hb hr hi hw hfull hN hS hS2 hM hne hlk hfn hfr hm hfb
        go_enter Try.func25, Try.ntmps25
        go_wp2_with (go_at_call 51; refine HI.out.mono ?_; rintro en w' ⟨rfl, rfl⟩)
        go_quiet (fail)
        go_wp2_with fail
        refine (HLK.out nq).mono ?_
        rintro en w3 ⟨rfl, hM3, hO4⟩
        obtain ⟨_, _, m3, _, m5, _⟩ := hM3.head
        rw [link_used] at m3
        have m3' : w3.cell? ⟨f.ab, 4, none⟩ = some (.int .i64 s.used) := m3
        have HM3 := hide hM3
        have HO4 := hide hO4
        clear hM3 hO4 m3
        go_wp2
        go_ret2
        refine ⟨rfl, f.gb, iUs HM3.out _, ?_, .inl rfl⟩
        refine Only.setCell (Only.trans ?_ HO4.out) (.inl (.inl rfl)) _
        exact (((Only.refl _ w).drewN nq).setCell (.inl (.inl rfl)) _).setCell (.inl (.inr (.inl rfl))) _
      · have hfr' : s.freed < 0 := by omega
        have hN : s.pushN = s.made := by unfold ASt.pushN; rw [if_pos hfr']
        have hS : s.pushS 0 = s.grow 0 := by unfold ASt.pushS; rw [if_pos hfr']
        have hS2 : s.pushOk 0 l.toNat (eB e) v = (((s.grow 0).setV s.made v).link s.made l.toNat (eB e)).setUs (s.used + 1) := by unfold ASt.pushOk; rw [hN, hS]; simp
        rw [hN, hS2]
        have hlt : s.made < s.most := hb.full (by omega) hfr'
        obtain ⟨nv, lv, hblk, hown, hlb⟩ := h
        have hn1 : w.cell? ⟨f.ab, 1, none⟩ = some nv := by rw [hblk.cell]; rfl
        obtain ⟨a, c, hnv⟩ := hown.len
        rw [hnv] at hn1 hown hblk
        obtain ⟨i0, hi0, hz0, hz1, hz2⟩ := info_parts info73
        have HB := hide hblk
        have HO := hide hown
        have HL := hide hlb
        have HD := hide hb
        clear hb hr hi hw hfull hnv hN hS hS2 hblk hown hlb hfr
        go_enter Try.func25, Try.ntmps25
        go_wp2_with (go_at_call 51; refine HI.out.mono ?_; rintro en w' ⟨rfl, rfl⟩)
        go_quiet (fail)
        go_wp2_with
          (at_builtin
           refine wpList_append_own_at _ rfl (.tmp 40) (.tmp 42) 74 rfl 0 73 i0 _ 4 32 Try.underlying74 hi0 hz0 hz1 hz2 rfl (by decide) (.slice a s.made c) s.made _ rfl ((HO.out.drewN nq).alloc _).1 ⟨w.heap.size, 0, none⟩ 1 1 [.int .i64 0, .int .i64 0, .int .i64 0, .int .i64 0] rfl rfl (cells_new _ _ _) (by simp [Value.oneCell']) (by unfold maxLen; omega) (by omega) (Nat.zero_le _) ?_
           intro v' w1 hown' hgr _ hat
           obtain ⟨g', cap', hv', hM, hO, hat', hb1, hne, hc1, hf1⟩ := AMem.grew (z := (0 : Int)) Ki_ok ((HB.out.drewN nq).alloc _) ((HO.out.drewN nq).alloc _) ((HL.out.drewN nq).alloc _) hown' hgr hat
           clear hown' hgr hat
           rw [hv'] at hM hO ⊢
           clear hv'
           have k0 : w1.cell? ⟨g', s.made * 4, none⟩ = some (.int .i64 0) := hc1 0 (by decide)
           have k4 : w1.cell? ⟨f.ab, 1, none⟩ = some (.slice a s.made c) := hb1.cell 1
           have k5 := hb1.frozen 1
           have k6 := hf1 (s.made * 4)
           have hne' : ¬ g' = f.ab := fun e => hne e.symm
           have hA2 : g' = f.gb ∨ w.heap.size ≤ g' := hat'.imp id (fun h => by simp at h; omega)
           have hO2 : Only f.has w (w1.setCell ⟨f.ab, 1, none⟩ (.slice (some ⟨g', 0, none⟩) (s.made + 1) cap')) := (((Only.refl _ w).drewN nq).alloc _).trans hO
           have hO3 := hO2.setCell (p := ⟨g', s.made * 4, none⟩) (hA2.imp (fun e => .inr (.inl e)) id) (.int .i64 v)
           have hlk := link_i _ _ _ (iV hM (n := s.made) (show s.made < s.made + 1 by omega) v) s.made l (eB e) (by omega) (by show (s.made : Int) < ((s.made + 1 : Nat) : Int); omega) h4 h5
             (HD.out.ends (eB e) (show l.toNat < s.L by omega)).1 (by show s.E (eB e) l.toNat < ((s.made + 1 : Nat) : Int); have := (HD.out.ends (eB e) (show l.toNat < s.L by omega)).2.1; omega)
             (HD.out.cnt (show l.toNat < s.L by omega)).1 (HD.out.cnt (show l.toNat < s.L by omega)).2 (by show s.made + 1 ≤ 4194304; omega) (by show ¬ s.E (eB e) l.toNat = s.made; have := (HD.out.ends (eB e) (show l.toNat < s.L by omega)).2.1; omega)
           rw [eI_eB h6, Int.toNat_natCast] at hlk
           have HLK := hide hlk
           have HO3 := hide hO3
           have HA := hide hA2
           clear hM hO hat' hc1 hf1 hb1 hlk hO2 hO3 hA2)
        go_wp2_with fail
        refine HLK.out.mono ?_
        rintro en w3 ⟨rfl, hM3, hO4⟩
        obtain ⟨_, _, m3, _, m5, _⟩ := hM3.head
        rw [link_used] at m3
        have m3' : w3.cell? ⟨f.ab, 4, none⟩ = some (.int .i64 s.used) := m3
        have m5' : w3.frozen? ⟨f.ab, 4, none⟩ = false := m5
        have HM3 := hide hM3
        have HO4 := hide hO4
        clear hM3 hO4 m3 m5
        go_wp2
        go_ret2
        refine ⟨rfl, g', iUs HM3.out _, ?_, HA.out⟩
        refine Only.setCell (HO3.out.trans2 HO4.out ?_) (.inl (.inl rfl)) _
        rintro i (hi | hi | hi)
        · exact .inl (.inl hi)
        · exact HA.out.imp (fun e => .inr (.inl (hi.trans e))) (fun e => by rw [show i = g' from hi]; exact e)
        · exact .inl (.inr (.inr hi))
end
end Go.Proofs.Ytbjmmfoklnhiiaa
