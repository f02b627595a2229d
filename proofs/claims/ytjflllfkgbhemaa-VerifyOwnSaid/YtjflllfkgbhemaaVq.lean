/- A standing that is written into the verifier's row. Conditions: none. -/
import Derived.Test.YtjflllfkgbhemaaV28
import Derived.Test.YtjflllfkgbhemaaV18
namespace Go.Proofs.Ytjflllfkgbhemaa
open Go.RowKit
def putAt (w : World) (rb n : Nat) (v0 v1 v2 v3 v4 v5 v6 v7 v8 v9 v10 v11 v12 : Value) : World := ((((((((((((w.setCell ⟨rb, n * 13, none⟩ v0).setCell ⟨rb, n * 13 + 1, none⟩ v1).setCell ⟨rb, n * 13 + 2, none⟩ v2).setCell ⟨rb, n * 13 + 3, none⟩ v3).setCell ⟨rb, n * 13 + 4, none⟩ v4).setCell ⟨rb, n * 13 + 5, none⟩ v5).setCell ⟨rb, n * 13 + 6, none⟩ v6).setCell ⟨rb, n * 13 + 7, none⟩ v7).setCell ⟨rb, n * 13 + 8, none⟩ v8).setCell ⟨rb, n * 13 + 9, none⟩ v9).setCell ⟨rb, n * 13 + 10, none⟩ v10).setCell ⟨rb, n * 13 + 11, none⟩ v11).setCell ⟨rb, n * 13 + 12, none⟩ v12
theorem putAt_eq (w : World) (rb n : Nat) (v0 v1 v2 v3 v4 v5 v6 v7 v8 v9 v10 v11 v12 : Value) : ((((((((((((w.setCell ⟨rb, n * 13, none⟩ v0).setCell ⟨rb, n * 13 + 1, none⟩ v1).setCell ⟨rb, n * 13 + 2, none⟩ v2).setCell ⟨rb, n * 13 + 3, none⟩ v3).setCell ⟨rb, n * 13 + 4, none⟩ v4).setCell ⟨rb, n * 13 + 5, none⟩ v5).setCell ⟨rb, n * 13 + 6, none⟩ v6).setCell ⟨rb, n * 13 + 7, none⟩ v7).setCell ⟨rb, n * 13 + 8, none⟩ v8).setCell ⟨rb, n * 13 + 9, none⟩ v9).setCell ⟨rb, n * 13 + 10, none⟩ v10).setCell ⟨rb, n * 13 + 11, none⟩ v11).setCell ⟨rb, n * 13 + 12, none⟩ v12 = putAt w rb n v0 v1 v2 v3 v4 v5 v6 v7 v8 v9 v10 v11 v12 := rfl
theorem Mt.keep {w w' : World} {oa : Option Addr} {ca : Nat} {l : List Int} (h : Mt w oa ca l) (hs : w.heap.size ≤ w'.heap.size) (hk : ∀ g cs, Blk w g 3 cs → w'.heap[g]? = w.heap[g]?) : Mt w' oa ca l := by
  have hb : ∀ g, oa = some ⟨g, 0, none⟩ → w'.heap[g]? = w.heap[g]? := fun g hg => by
    obtain ⟨cs, hc⟩ := h.ty3 _ hg
    exact hk g cs hc
  refine ⟨⟨h.le, h.top, h.none_, fun a ha => ?_, fun i x hx => ?_⟩, fun a ha => ?_⟩
  · obtain ⟨g, e, hg⟩ := h.some_ a ha
    exact ⟨g, e, Nat.lt_of_lt_of_le hg hs⟩
  · obtain ⟨g, e, hg, hc⟩ := h.at_ i x hx
    exact ⟨g, e, Nat.lt_of_lt_of_le hg hs, (World.cell?_of_block (hb g e)).trans hc⟩
  · obtain ⟨g, rfl, hg⟩ := h.some_ a ha
    obtain ⟨cs, hc⟩ := h.ty3 _ ha
    exact ⟨cs, (hb g ha).trans hc⟩
theorem only_ty {w w' : World} {rb g : Nat} {t t' : TypeId} {cs cs' : Array Value} (h : Only (fun k => k = rb) w w') (hr : Blk w rb t cs) (hg : Blk w g t' cs') (hne : t' ≠ t) : w'.heap[g]? = w.heap[g]? :=
  h.block g hg.lt (fun e => hg.ne_ hr hne e)
theorem Mt.only {w w' : World} {rb : Nat} {cs : Array Value} {oa : Option Addr} {ca : Nat} {l : List Int} (h : Mt w oa ca l) (ho : Only (fun k => k = rb) w w') (hr : Blk w rb 74 cs) : Mt w' oa ca l :=
  h.keep ho.size fun g cs' hg => only_ty ho hr hg (by decide)
theorem Wy.only {w w' : World} {rb : Nat} {cs : Array Value} {v : Value} {l : List (Int × St)} (h : Wy w v l) (ho : Only (fun k => k = rb) w w') (hr : Blk w rb 74 cs) : Wy w' v l := by
  obtain ⟨oa, c, rfl, hc, h⟩ := h
  refine ⟨oa, c, rfl, hc, fun i p hi => ?_⟩
  obtain ⟨g, rfl, hg, ⟨ou, cu, hm, h0, h1⟩, cs', hb⟩ := h i p hi
  have hk := only_ty ho hr hb (by decide)
  exact ⟨g, rfl, Nat.lt_of_lt_of_le hg ho.size, ⟨ou, cu, hm.only ho hr, (World.cell?_of_block hk).trans h0, fun j x hx => (World.cell?_of_block hk).trans (h1 j x hx)⟩, cs', hk.trans hb⟩
theorem putAt_only (w : World) (rb n : Nat) (v0 v1 v2 v3 v4 v5 v6 v7 v8 v9 v10 v11 v12 : Value) : Only (fun k => k = rb) w (putAt w rb n v0 v1 v2 v3 v4 v5 v6 v7 v8 v9 v10 v11 v12) := by
  exact ((((((((((((((Only.refl (fun k => k = rb) w).setCell (p := ⟨rb, (n * 13), none⟩) (.inl rfl) v0).setCell (p := ⟨rb, n * 13 + 1, none⟩) (.inl rfl) v1).setCell (p := ⟨rb, n * 13 + 2, none⟩) (.inl rfl) v2).setCell (p := ⟨rb, n * 13 + 3, none⟩) (.inl rfl) v3).setCell (p := ⟨rb, n * 13 + 4, none⟩) (.inl rfl) v4).setCell (p := ⟨rb, n * 13 + 5, none⟩) (.inl rfl) v5).setCell (p := ⟨rb, n * 13 + 6, none⟩) (.inl rfl) v6).setCell (p := ⟨rb, n * 13 + 7, none⟩) (.inl rfl) v7).setCell (p := ⟨rb, n * 13 + 8, none⟩) (.inl rfl) v8).setCell (p := ⟨rb, n * 13 + 9, none⟩) (.inl rfl) v9).setCell (p := ⟨rb, n * 13 + 10, none⟩) (.inl rfl) v10).setCell (p := ⟨rb, n * 13 + 11, none⟩) (.inl rfl) v11).setCell (p := ⟨rb, n * 13 + 12, none⟩) (.inl rfl) v12)
set_option maxHeartbeats 4000000 in
theorem put_row {w : World} {rb n : Nat} {ats : List St} (h : AtRow w rb ats) (hn : n < ats.length) (s : St) (oa : Option Addr) (ca : Nat) (hm : Mt w oa ca (s.ls.drop 8)) :
    AtRow (putAt w rb n (.bool s.there) (.string s.ty) (.int .i64 (lv s.ls 0)) (.int .i64 (lv s.ls 1)) (.int .i64 (lv s.ls 2)) (.int .i64 (lv s.ls 3)) (.int .i64 (lv s.ls 4)) (.int .i64 (lv s.ls 5)) (.int .i64 (lv s.ls 6)) (.int .i64 (lv s.ls 7)) (.int .i64 (s.ls.length : Int)) (.int .i64 s.hand) (.slice oa (s.ls.length - 8) ca)) rb (ats.set n s) := by
  obtain ⟨⟨cs, h, hs⟩, hrow⟩ := h
  have ho := putAt_only w rb n (.bool s.there) (.string s.ty) (.int .i64 (lv s.ls 0)) (.int .i64 (lv s.ls 1)) (.int .i64 (lv s.ls 2)) (.int .i64 (lv s.ls 3)) (.int .i64 (lv s.ls 4)) (.int .i64 (lv s.ls 5)) (.int .i64 (lv s.ls 6)) (.int .i64 (lv s.ls 7)) (.int .i64 (s.ls.length : Int)) (.int .i64 s.hand) (.slice oa (s.ls.length - 8) ca)
  have hb : Blk (putAt w rb n (.bool s.there) (.string s.ty) (.int .i64 (lv s.ls 0)) (.int .i64 (lv s.ls 1)) (.int .i64 (lv s.ls 2)) (.int .i64 (lv s.ls 3)) (.int .i64 (lv s.ls 4)) (.int .i64 (lv s.ls 5)) (.int .i64 (lv s.ls 6)) (.int .i64 (lv s.ls 7)) (.int .i64 (s.ls.length : Int)) (.int .i64 s.hand) (.slice oa (s.ls.length - 8) ca)) rb 74 _ := (((((((((((((h.set_ (n * 13) _).set_ (n * 13 + 1) _).set_ (n * 13 + 2) _).set_ (n * 13 + 3) _).set_ (n * 13 + 4) _).set_ (n * 13 + 5) _).set_ (n * 13 + 6) _).set_ (n * 13 + 7) _).set_ (n * 13 + 8) _).set_ (n * 13 + 9) _).set_ (n * 13 + 10) _).set_ (n * 13 + 11) _).set_ (n * 13 + 12) _)
  refine ⟨⟨_, hb, by simp [hs]⟩, fun i s' hi => ?_⟩
  by_cases hin : i = n
  · subst hin
    rw [List.getElem?_set_self hn] at hi
    cases hi
    refine ⟨oa, ca, hm.only ho h, fun j x hj => ?_⟩
    have hj13 : j < 13 := (Array.getElem?_eq_some_iff.1 hj).1
    rw [hb.cell]
    have hlt : i * 13 + 12 < cs.size := by omega
    obtain rfl | rfl | rfl | rfl | rfl | rfl | rfl | rfl | rfl | rfl | rfl | rfl | rfl : j = 0 ∨ j = 1 ∨ j = 2 ∨ j = 3 ∨ j = 4 ∨ j = 5 ∨ j = 6 ∨ j = 7 ∨ j = 8 ∨ j = 9 ∨ j = 10 ∨ j = 11 ∨ j = 12 := by omega
    all_goals
      rw [← hj]
      simp [Array.getElem?_setIfInBounds, St.cells]
      try omega
  · rw [List.getElem?_set_ne (fun e => hin e.symm)] at hi
    obtain ⟨ob, cb, hm2, hr⟩ := hrow i s' hi
    refine ⟨ob, cb, hm2.only ho h, fun j x hj => ?_⟩
    have hj13 : j < 13 := (Array.getElem?_eq_some_iff.1 hj).1
    have hx := hr j x hj
    rw [h.cell] at hx
    rw [hb.cell]
    have hne : ∀ m, m < 13 → n * 13 + m ≠ i * 13 + j := fun m hm => by omega
    have h0 := hne 0 (by omega)
    simp only [Nat.add_zero] at h0
    rw [← hx]
    simp [h0, hne]
end Go.Proofs.Ytjflllfkgbhemaa
