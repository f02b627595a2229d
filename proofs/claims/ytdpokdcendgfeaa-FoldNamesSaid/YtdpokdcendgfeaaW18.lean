/- Several texts in one: The rows of a right event are as fold needs them. Nothing here walks the program. What fold tells of the plan of the statements' own example: reckoned. Nothing here walks the program. The walk of the statements' own example (head). Conditions: those of each. -/
import Derived.Test.YtdpokdcendgfeaaW17
import Derived.Test.YtdpokdcendgfeaaW14
import Derived.Deep.DeepMust
set_option linter.unusedSimpArgs false
set_option linter.unusedVariables false
set_option maxHeartbeats 80000000
namespace Go.Proofs.Ytdpokdcendgfeaa
section
variable {P : Pl} {l : List Ac}
theorem kids_cnt {R : Int → Nat → Nat → Prop} (hR : ∀ w i e, R w i e → i < e) : ∀ (ws : List Int) (i : Nat) (sp : List (Nat × Nat)) (e : Nat), Kids R ws i sp e → sp.length + i ≤ e
 | [], i, [], e, h => by
   simp only [Kids] at h
   simp
   omega
 | w :: ws, i, r :: sp, e, h => by
   obtain ⟨rfl, h3, h4⟩ := h
   have := hR _ _ _ h3
   have := kids_cnt hR ws _ sp e h4
   simp only [List.length_cons]
   omega
 | [], i, r :: sp, e, h => by simp [Kids] at h
 | w :: ws, i, [], e, h => by simp [Kids] at h
theorem kids_allB {R : Int → Nat → Nat → Prop} : ∀ (ws : List Int) (i : Nat) (sp : List (Nat × Nat)) (e : Nat), Kids R ws i sp e → ∀ r ∈ sp, ∃ w, w ∈ ws ∧ R w r.1 r.2
 | [], i, [], e, h, r, hr => by cases hr
 | w :: ws, i, q :: sp, e, h, r, hr => by
   obtain ⟨rfl, h3, h4⟩ := h
   rcases List.mem_cons.1 hr with rfl | hr
   · exact ⟨w, by simp, h3⟩
   · obtain ⟨w', a, b⟩ := kids_allB ws _ sp e h4 r hr
     exact ⟨w', by simp [a], b⟩
 | [], i, r :: sp, e, h, _, _ => by simp [Kids] at h
 | w :: ws, i, [], e, h, _, _ => by simp [Kids] at h
/-- a row of a tree, laid open -/
structure RowW (P : Pl) (l : List Ac) (f : Nat) (what : Int) (i e : Nat) : Prop where
 x : l[i]? = some (rowL l i)
 may : mayV what (rowL l i).k = true
 num : numV P (rowL l i) = true
 n0 : 0 ≤ (rowL l i).n
 n : (rowL l i).k ≠ 1 → (rowL l i).n = ((kidsV (rowL l i).k (rowL l i).n).length : Int)
 ks : Kids (Wf P l f) (wantsV (rowL l i) ((l[i + 1]?.map Ac.k).getD 0)) (i + 1) (spL l i) e
 hand : (rowL l i).k = 1 → ∀ r ∈ spL l i, (rowL l r.1).k = 9 → handV P l r.1 ≠ 0
 sp : kidsS l (rowL l i).n.toNat (i + 1) = some (spL l i)
 len : ((spL l i).length : Int) = (rowL l i).n
 ee : endL l i = e
 lt : i < e
 le : e ≤ l.length
theorem wf_row {f : Nat} {what : Int} {i e : Nat} (h : Wf P l (f + 1) what i e) : RowW P l f what i e := by
 have hle := wf_le _ _ _ _ h
 have hend := wf_end1 h
 obtain ⟨x, sp, hx, h1, h2, h3, h4, h5, h6⟩ := h
 have hr : rowL l i = x := by unfold rowL; rw [hx]; rfl
 have hwl := wants_length (x := x) (k0 := (l[i + 1]?.map Ac.k).getD 0) h3 h4
 have hks := kids_kidsS (l := l) (R := Wf P l f) (fun w i e h => by
   cases f with
   | zero => exact h.elim
   | succ f => exact wf_end1 h) _ _ _ _ h5
 have hn : (wantsV x ((l[i + 1]?.map Ac.k).getD 0)).length = x.n.toNat := by omega
 rw [hn] at hks
 have hsp : spL l i = sp := by unfold spL; rw [hr, hks]; rfl
 have hl2 := kids_length _ _ _ _ h5
 refine ⟨by rw [hr]; exact hx, by rw [hr]; exact h1, by rw [hr]; exact h2, by rw [hr]; exact h3, by rw [hr]; exact h4, by rw [hr, hsp]; exact h5, fun hk r hm h9 => ?_, by rw [hr, hsp]; exact hks, by rw [hr, hsp]; omega, endL_eq hend, hle.1, hle.2⟩
 rw [hr] at hk
 rw [hsp] at hm
 have hin := kidsS_in l _ _ _ hks (by have := (List.getElem?_eq_some_iff.1 hx).1; omega)
 have hr2 := hin.2 r hm
 exact h6 hk r hm _ (rowL_get (by omega)) h9
theorem wf_pos {f : Nat} {what : Int} {i e : Nat} (h : Wf P l f what i e) : ∃ f', f = f' + 1 := by
 cases f with
 | zero => exact h.elim
 | succ f => exact ⟨f, rfl⟩
/-- what must stand below a row that is no block -/
theorem wants_in {f : Nat} {what : Int} {i e : Nat} (R : RowW P l f what i e) (hk : (rowL l i).k ≠ 1) : ∀ w ∈ wantsV (rowL l i) ((l[i + 1]?.map Ac.k).getD 0), w = 1 ∨ w = 2 ∨ w = 3 ∨ w = 4 ∨ w = 5 := by
 intro w hw
 by_cases h34 : (rowL l i).k = 34
 · have hks := R.ks
   unfold wantsV at hw hks
   rw [if_neg hk, if_pos h34] at hw hks
   simp only [List.mem_cons, List.not_mem_nil, or_false] at hw
   rcases hw with rfl | rfl
   · omega
   · match hsp : spL l i, hks with
     | [], h => simp [hsp, Kids] at h
     | r :: sp, hks =>
       obtain ⟨h1, h2, _⟩ := hks
       obtain ⟨f', rfl⟩ := wf_pos h2
       have R2 := wf_row h2
       have hm := R2.may
       rw [h1] at hm
       have hx := R2.x
       rw [h1] at hx
       rw [hx]
       simp only [Option.map_some, Option.getD_some]
       simp only [mayV] at hm
       simp at hm
       unfold typeV at hm ⊢
       (repeat' split at hm) <;> (repeat' split) <;> simp at * <;> omega
 · unfold wantsV at hw
   rw [if_neg hk, if_neg h34] at hw
   unfold kidsV at hw
   (repeat' split at hw) <;> simp at hw <;> omega
/-- every RTake in a tree has what empties the hand behind it -/
theorem wf_hand : ∀ (f : Nat) (what : Int) (i e : Nat), Wf P l f what i e → ((rowL l i).k = 9 → handV P l i ≠ 0) → ∀ j, i ≤ j → j < e → (rowL l j).k = 9 → handV P l j ≠ 0
 | 0, what, i, e, h, _, j, _, _, _ => h.elim
 | f + 1, what, i, e, h, h9, j, h1, h2, hk => by
   have R := wf_row h
   rcases Nat.eq_or_lt_of_le h1 with rfl | h3
   · exact h9 hk
   · obtain ⟨w, r, a1, a2, a3, a4, a5⟩ := kids_in (fun w i e h => (wf_le f w i e h).1) _ _ _ _ R.ks j h3 h2
     refine wf_hand f w r.1 r.2 a2 (fun hr9 => ?_) j a3 a4 hk
     by_cases hx1 : (rowL l i).k = 1
     · exact R.hand hx1 r a1 hr9
     · exfalso
       obtain ⟨w2, b1, b2⟩ := kids_allB _ _ _ _ R.ks r a1
       obtain ⟨f', rfl⟩ := wf_pos b2
       have hm := (wf_row b2).may
       rw [hr9] at hm
       have hw5 := wants_in R hx1 w2 b1
       unfold mayV at hm
       rcases hw5 with rfl | rfl | rfl | rfl | rfl <;> simp [typeV] at hm
theorem kids_out {R : Int → Nat → Nat → Prop} (hR : ∀ w i e, R w i e → i < e) : ∀ (ws : List Int) (i : Nat) (sp : List (Nat × Nat)) (e : Nat), Kids R ws i sp e → ∀ r ∈ sp, i ≤ r.1 ∧ r.1 < r.2 ∧ r.2 ≤ e
 | [], i, [], e, h, r, hr => by cases hr
 | w :: ws, i, q :: sp, e, h, r, hr => by
   have hc := kids_cnt hR _ _ _ _ h
   obtain ⟨rfl, h3, h4⟩ := h
   have h5 := hR _ _ _ h3
   have h6 := kids_cnt hR _ _ _ _ h4
   rcases List.mem_cons.1 hr with rfl | hr
   · exact ⟨Nat.le_refl _, h5, by omega⟩
   · have := kids_out hR ws _ sp e h4 r hr
     omega
 | [], i, r :: sp, e, h, _, _ => by simp [Kids] at h
 | w :: ws, i, [], e, h, _, _ => by simp [Kids] at h
theorem sub_get {s t i : Nat} (h1 : s ≤ i) (h2 : i < t) : (sub l (s, t))[i - s]? = l[i]? := by
 unfold sub
 simp only
 rw [List.getElem?_take, if_pos (by omega), List.getElem?_drop]
 congr 1
 omega
theorem endS_sub {s t : Nat} (ht : t ≤ l.length) : ∀ (m i : Nat) (left : Int) (e : Nat), l.length - i = m → endS l i left = some e → s ≤ i → i ≤ l.length → e ≤ t → endS (sub l (s, t)) (i - s) left = some (e - s)
 | m, i, left, e, hm, h, hs, hi, he => by
   by_cases hp : left ≤ 0
   · rw [endS_stop hp] at h ⊢
     injection h with h
     rw [h]
   · have hle := endS_le l _ i left e rfl h hi
     have hie : i < e := hle.2.2 (by omega)
     obtain ⟨x, hx⟩ : ∃ x, l[i]? = some x := ⟨_, List.getElem?_eq_getElem (by omega)⟩
     rw [endS_step hp hx] at h
     rw [endS_step (x := x) hp (by rw [sub_get hs (by omega)]; exact hx), show i - s + 1 = i + 1 - s by omega]
     exact endS_sub ht (l.length - (i + 1)) (i + 1) _ e rfl h (by omega) (by omega) he
 termination_by m => m
theorem kidsS_sub {s t : Nat} (ht : t ≤ l.length) : ∀ (m k : Nat) (sp : List (Nat × Nat)), kidsS l m k = some sp → s ≤ k → k ≤ l.length → (∀ r ∈ sp, r.2 ≤ t) → kidsS (sub l (s, t)) m (k - s) = some (sp.map fun r => (r.1 - s, r.2 - s))
 | 0, k, sp, h, _, _, _ => by
   simp only [kidsS, Option.some.injEq] at h
   subst h
   rfl
 | m + 1, k, sp, h, hs, hk, hr => by
   unfold kidsS at h ⊢
   cases he : endS l k 1 with
   | none => rw [he] at h; simp at h
   | some e =>
     rw [he] at h
     simp only [Option.map_eq_some_iff] at h
     obtain ⟨sp', h1, rfl⟩ := h
     have hle := endS_le l _ k 1 e rfl he hk
     have het := hr (k, e) (by simp)
     rw [endS_sub ht _ k 1 e rfl he hs hk het]
     simp only
     rw [kidsS_sub ht m e sp' h1 (by omega) hle.2.1 (fun r hr' => hr r (List.mem_cons_of_mem _ hr'))]
     rfl
theorem small_sub (hs : Small l) (r : Nat × Nat) : Small (sub l r) := by
 refine ⟨?_, fun x hx => hs.2 x ?_⟩
 · have := hs.1
   unfold sub
   rw [List.length_take, List.length_drop]
   omega
 · unfold sub at hx
   exact List.mem_of_mem_drop (List.mem_of_mem_take hx)
theorem wfR {f : Nat} (w : Int) (i e : Nat) (h : Wf P l f w i e) : i < e := (wf_le _ _ _ _ h).1
theorem blk_ok {f : Nat} {i e : Nat} (hs : Small l) (h : Wf P l f 1 i e) : BlkOk (sub l (i, e)) (rowL l i) := by
 obtain ⟨f, rfl⟩ := wf_pos h
 have R := wf_row h
 have hk : (rowL l i).k = 1 := by have := R.may; simpa [mayV] using this
 refine ⟨by rw [← R.x, ← sub_get (Nat.le_refl i) R.lt, Nat.sub_self], small_sub hs _, fun hn => ?_⟩
 have hl := R.len
 have hn0 := R.n0
 match hsp : spL l i, R.ks, R.sp, hl with
 | [], _, _, hl => simp at hl; omega
 | r0 :: sp, hks, hkS, _ =>
   have hks2 := hks
   have hout := kids_out wfR _ _ _ _ hks
   have hr0 := hout r0 (by simp)
   rw [show wantsV (rowL l i) ((l[i + 1]?.map Ac.k).getD 0) = List.replicate (rowL l i).n.toNat 0 by unfold wantsV; rw [if_pos hk]] at hks2
   obtain ⟨m, hm⟩ : ∃ m, (rowL l i).n.toNat = m + 1 := ⟨(rowL l i).n.toNat - 1, by omega⟩
   rw [hm, List.replicate_succ] at hks2
   obtain ⟨e1, hw, _⟩ := hks2
   rw [e1] at hw
   obtain ⟨f', rfl⟩ := wf_pos hw
   have R1 := wf_row hw
   have hshift := kidsS_sub (l := l) (s := i) (t := e) R.le _ _ _ hkS (by omega) (by have := R.lt; have := R.le; omega) (fun r hr => (hout r hr).2.2)
   rw [show i + 1 - i = 1 by omega] at hshift
   simp only [List.map_cons] at hshift
   refine ⟨rowL l (i + 1), (r0.1 - i, r0.2 - i), sp.map fun (r : Nat × Nat) => (r.1 - i, r.2 - i), ?_, hshift, fun hk2 => ?_⟩
   · have := sub_get (l := l) (s := i) (t := e) (i := i + 1) (by omega) (by omega)
     rw [show i + 1 - i = 1 by omega] at this
     rw [this, R1.x]
   · have hout1 := kids_out wfR _ _ _ _ R1.ks
     have hsh1 := kidsS_sub (l := l) (s := i) (t := e) R.le _ _ _ R1.sp (by omega) (by have := R1.lt; have := R1.le; omega) (fun r hr => by have := (hout1 r hr).2.2; omega)
     rw [show i + 1 + 1 - i = 2 by omega] at hsh1
     have hn1 := R1.n (by omega)
     have hl1 := R1.len
     have hkv : (kidsV (rowL l (i + 1)).k (rowL l (i + 1)).n).length = 2 ∨ (kidsV (rowL l (i + 1)).k (rowL l (i + 1)).n).length = 3 := by
       rw [hk2]; unfold kidsV; rw [if_pos rfl]; split <;> simp
     match hq : spL l (i + 1), hout1, hsh1, hl1 with
     | [], _, _, hl1 => simp at hl1; omega
     | [_], _, _, hl1 => simp at hl1; omega
     | q0 :: q1 :: sp', hout1, hsh1, hl1 =>
       refine ⟨(q0.1 - i, q0.2 - i), (q1.1 - i, q1.2 - i), sp'.map fun (r : Nat × Nat) => (r.1 - i, r.2 - i), by simpa using hsh1, ?_, fun q hq' => ?_⟩
       · rw [List.length_map]
         simp only [List.length_cons] at hl1
         omega
       · have : q ∈ (q0 :: q1 :: sp').map fun (r : Nat × Nat) => (r.1 - i, r.2 - i) := by simpa using hq'
         obtain ⟨q2, hq2, rfl⟩ := List.mem_map.1 this
         have := (hout1 q2 hq2).2.2
         show q2.2 - i ≤ r0.2 - i
         omega
theorem heads_of {f : Nat} {what : Int} {i e : Nat} (R : RowW P l f what i e) : Heads ((spL l i).map (sub l)) (hsL l (spL l i)) := by
 have hout := kids_out wfR _ _ _ _ R.ks
 refine ⟨by simp [hsL], fun j k h e1 e2 => ?_⟩
 unfold hsL at e2
 rw [List.getElem?_map] at e1 e2
 cases hj : (spL l i)[j]? with
 | none => rw [hj] at e1; simp at e1
 | some r =>
   rw [hj] at e1 e2
   simp only [Option.map_some, Option.some.injEq] at e1 e2
   subst e1 e2
   have h1 := hout r (List.mem_of_getElem? hj)
   have := R.le
   rw [sub_head h1.2.1]
   exact rowL_get (by omega)
theorem kid_wf {f : Nat} {what : Int} {i e : Nat} (R : RowW P l f what i e) {r : Nat × Nat} (hr : r ∈ spL l i) : ∃ f' w', w' ∈ wantsV (rowL l i) ((l[i + 1]?.map Ac.k).getD 0) ∧ RowW P l f' w' r.1 r.2 := by
 obtain ⟨w, h1, h2⟩ := kids_allB _ _ _ _ R.ks r hr
 obtain ⟨f', rfl⟩ := wf_pos h2
 exact ⟨f', w, h1, wf_row h2⟩
theorem row_eok {f : Nat} {what : Int} {i e : Nat} (R : RowW P l f what i e) (hk : 16 < (rowL l i).k) : EOk l i (rowL l i) (spL l i) (hsL l (spL l i)) := by
 have hn := R.n (by omega)
 have hl := R.len
 have hlen : (spL l i).length = (kidsV (rowL l i).k (rowL l i).n).length := by omega
 refine ⟨R.sp, heads_of R, ?_, fun y hy hfx => ?_, fun h2 => ?_, fun h1 => ?_, fun r hr y hy h28 => ?_⟩
 · rw [hlen]
   unfold kidsV
   (repeat' split) <;> simp <;> omega
 · unfold hsL at hy
   obtain ⟨r, hr, rfl⟩ := List.mem_map.1 hy
   obtain ⟨f', w', _, R'⟩ := kid_wf R hr
   have hnum := R'.num
   unfold fixedV at hfx
   simp only [Bool.or_eq_true, decide_eq_true_eq] at hfx
   unfold numV at hnum
   rcases hfx with h9 | h9
   · simp [h9, fromV] at hnum
     omega
   · simp [h9, fromV] at hnum
     omega
 · rw [hlen]
   rcases h2 with h2 | h2 | h2
   · have : (rowL l i).k = 30 ∨ (rowL l i).k = 31 ∨ (rowL l i).k = 32 ∨ (rowL l i).k = 33 ∨ (rowL l i).k = 34 := by omega
     rcases this with q | q | q | q | q <;> simp [kidsV, q]
   · simp [kidsV, h2]
   · simp [kidsV, h2]
 · rw [hlen]
   rcases h1 with q | q <;> simp [kidsV, q]
 · obtain ⟨f', w', _, R'⟩ := kid_wf R hr
   have hx := R'.x
   rw [hy] at hx
   injection hx with hx
   have hn' := R'.n (by rw [← hx]; omega)
   have hl' := R'.len
   have hc := kids_cnt wfR _ _ _ _ R'.ks
   have : (kidsV (rowL l r.1).k (rowL l r.1).n).length = 1 := by
     rw [← hx]
     rcases h28 with q | q <;> simp [kidsV, q]
   omega
theorem row_dok {f : Nat} {what : Int} {i e : Nat} (R : RowW P l f what i e) (hs : Small l) (hl : l.length ≤ 131072) (hh : (rowL l i).k = 9 → handV P l i ≠ 0) (hk : ¬ 16 < (rowL l i).k) : DOk l i (rowL l i) ((spL l i).map (sub l)) (hsL l (spL l i)) := by
 have hlen := R.len
 have hout := kids_out wfR _ _ _ _ R.ks
 have hle := R.le
 refine ⟨fun k2 => ?_, fun k3 => ?_, fun k4 => ?_, fun k9 => ?_⟩
 · have hn := R.n (by omega)
   have hks := R.ks
   rw [show wantsV (rowL l i) ((l[i + 1]?.map Ac.k).getD 0) = kidsV (rowL l i).k (rowL l i).n by unfold wantsV; rw [if_neg (by omega), if_neg (by omega)]] at hks
   have hkv : kidsV (rowL l i).k (rowL l i).n = if (rowL l i).n = 3 then [3, 1, 1] else [3, 1] := by unfold kidsV; rw [if_pos k2]
   have hrw := kidsS_rows l _ _ _ R.sp (by have := R.lt; omega)
   rw [hkv] at hks hn
   have hneg : ∀ (r : Nat × Nat), r ∈ spL l i → (rowL l r.1).k = 29 → 2 ≤ (sub l r).length := fun r hr q => by
     have h1 := hout r hr
     obtain ⟨f', w', _, R'⟩ := kid_wf R hr
     have hn' := R'.n (by omega)
     have hl' := R'.len
     have hc := kids_cnt wfR _ _ _ _ R'.ks
     have : (kidsV (rowL l r.1).k (rowL l r.1).n).length = 1 := by simp [kidsV, q]
     rw [sub_len (by omega)]
     omega
   by_cases h3 : (rowL l i).n = 3
   · rw [if_pos h3] at hks
     match hsp : spL l i, hks, hout, hrw with
     | [r0, r1, r2], hks, hout, hrw =>
       obtain ⟨_, w0, e1, w1, e2, w2, _⟩ := hks
       have o0 := hout r0 (by simp)
       have o1 := hout r1 (by simp)
       have o2 := hout r2 (by simp)
       refine ⟨by rw [sub_head o0.2.1]; exact rowL_get (by omega), blk_ok hs w1, blk_ok hs w2, hneg r0 (by rw [hsp]; simp), ?_⟩
       simp only [rowsV, List.map_cons, List.map_nil, List.sum_cons, List.sum_nil] at hrw
       omega
     | [], hks, _, _ => simp [Kids] at hks
     | [_], hks, _, _ => simp [Kids] at hks
     | [_, _], hks, _, _ => simp [Kids] at hks
     | _ :: _ :: _ :: _ :: _, hks, _, _ => simp [Kids] at hks
   · rw [if_neg h3] at hks
     match hsp : spL l i, hks, hout, hrw with
     | [r0, r1], hks, hout, hrw =>
       obtain ⟨_, w0, e1, w1, _⟩ := hks
       have o0 := hout r0 (by simp)
       have o1 := hout r1 (by simp)
       refine ⟨by rw [sub_head o0.2.1]; exact rowL_get (by omega), blk_ok hs w1, hneg r0 (by rw [hsp]; simp), ?_⟩
       simp only [rowsV, List.map_cons, List.map_nil, List.sum_cons, List.sum_nil] at hrw
       omega
     | [], hks, _, _ => simp [Kids] at hks
     | [_], hks, _, _ => simp [Kids] at hks
     | _ :: _ :: _ :: _, hks, _, _ => simp [Kids] at hks
 · have hn := R.n (by omega)
   rw [show kidsV (rowL l i).k (rowL l i).n = [3, 1] by simp [kidsV, k3]] at hn
   match hsp : spL l i, hlen, hout with
   | [r0, r1], _, hout =>
     have o0 := hout r0 (by simp)
     have o1 := hout r1 (by simp)
     exact ⟨_, _, _, _, rfl, rfl, by rw [sub_head o0.2.1]; exact rowL_get (by omega), by rw [sub_head o1.2.1]; exact rowL_get (by omega)⟩
   | [], hlen, _ => simp at hlen hn; omega
   | [_], hlen, _ => simp at hlen hn; omega
   | _ :: _ :: _ :: _, hlen, _ => simp at hlen hn; omega
 · have hn := R.n (by omega)
   rw [show kidsV (rowL l i).k (rowL l i).n = [2] by simp [kidsV, k4]] at hn
   match hsp : spL l i, hlen, hout with
   | [r0], _, hout =>
     have o0 := hout r0 (by simp)
     exact ⟨_, _, rfl, rfl, by rw [sub_head o0.2.1]; exact rowL_get (by omega)⟩
   | [], hlen, _ => simp at hlen hn; omega
   | _ :: _ :: _, hlen, _ => simp at hlen hn; omega
 · have h0 := hh k9
   obtain ⟨h1, _⟩ := handV_le h0
   rcases h1 with h1 | h1
   · obtain ⟨y, hy, h2⟩ := handTwo R.x h1
     refine ⟨y, hy, fun a b => ?_⟩
     unfold hand2 at h2
     simp only [Bool.and_eq_true, Bool.or_eq_true, decide_eq_true_eq] at h2
     rcases h2.2 with q | q
     · exact absurd q.1 a
     · exact absurd q.1 b
   · obtain ⟨y, z, hy, hz, _⟩ := handThree R.x h1
     exact ⟨y, hy, fun _ _ => ⟨z, hz⟩⟩
/-- the rows of a right event are as fold needs them -/
theorem ev_small (h : eventV P l = true) (hl : l.length ≤ 131072) : Small l := by
 by_cases h0 : l = []
 · subst h0
   exact ⟨by simp, fun x hx => by cases hx⟩
 · have hw := wf_event h h0
   refine ⟨by omega, fun x hx => ?_⟩
   obtain ⟨j, hj⟩ := List.getElem?_of_mem hx
   have hjl := (List.getElem?_eq_some_iff.1 hj).1
   obtain ⟨f', what', e', h1, _⟩ := wf_in _ _ _ _ hw j (Nat.zero_le _) hjl
   obtain ⟨f', rfl⟩ := wf_pos h1
   have R := wf_row h1
   have hx2 := R.x
   rw [hj] at hx2
   injection hx2 with hx2
   have hc := kids_cnt wfR _ _ _ _ R.ks
   have := R.len
   have := R.le
   have := R.n0
   rw [hx2]
   omega
theorem ev_lk (h : eventV P l = true) (hl : l.length ≤ 131072) : ∀ i, i < l.length → LkOk l i := by
 intro i hi
 have hs := ev_small h hl
 have h0 : l ≠ [] := fun e => by rw [e] at hi; simp at hi
 have hw := wf_event h h0
 obtain ⟨f', what', e', h1, _⟩ := wf_in _ _ _ _ hw i (Nat.zero_le _) hi
 obtain ⟨f', rfl⟩ := wf_pos h1
 have R := wf_row h1
 have hroot : (rowL l 0).k = 9 → handV P l 0 ≠ 0 := fun q => by
   have := (wf_row hw).may
   rw [q] at this
   simp [mayV] at this
 refine ⟨R.sp, by rw [R.ee]; exact wf_end1 h1, row_eok R, row_dok R hs hl (wf_hand _ _ _ _ hw hroot i (Nat.zero_le _) hi), fun hpos => ?_⟩
 obtain ⟨p, a, b, _⟩ := par_up (tree_of h) hs hpos hi
 exact ⟨p, a, by omega⟩
end
end Go.Proofs.Ytdpokdcendgfeaa
namespace Go.Proofs.Ytdpokdcendgfeaa
def hd0 : List Ac := [⟨1, 0, 0, 0, 0, 1⟩, ⟨2, 0, 0, 0, 0, 2⟩, ⟨20, 1, 0, 0, 0, 0⟩, ⟨1, 0, 0, 0, 0, 1⟩, ⟨6, 0, 0, 0, 0, 0⟩]
def hd1 : List Ac := [⟨1, 0, 0, 0, 0, 1⟩, ⟨1, 0, 0, 0, 0, 1⟩, ⟨6, 0, 0, 0, 0, 0⟩]
def hd2 : List Ac := [⟨1, 0, 0, 0, 0, 1⟩, ⟨6, 0, 0, 0, 0, 0⟩]
def headP : Pl := ⟨[false], [], [], [[]], hd0⟩
section
variable {l : List Ac} {i : Nat}
theorem hrow6 (f : Nat) (hx : l[i]? = some ⟨6, 0, 0, 0, 0, 0⟩) : rowV headP l (f + 1) i 0 = some (i + 1, 1) := by
 unfold rowV
 simp only [hx]
 rw [if_pos (by decide), if_neg (by decide), if_neg (by decide)]
 rfl
theorem hrow1 (f : Nat) {what : Int} {y : Ac} {e : Nat} {n : Int} (hx : l[i]? = some ⟨1, 0, 0, 0, 0, 1⟩) (hm : mayV what 1 = true) (hy : l[i + 1]? = some y) (hk : y.k = 1 ∨ y.k = 2 ∨ y.k = 6) (hr : rowV headP l f (i + 1) 0 = some (e, n)) : rowV headP l (f + 1) i what = some (e, 0) := by
 unfold rowV
 simp only [hx]
 rw [if_pos (by rw [hm]; rfl), if_pos trivial, if_neg (by decide)]
 rw [show ((1 : Int).toNat) = 1 from rfl, block_row (by decide) hy (by omega) (by omega) hr, block_end]
 rfl
theorem hrow20 (f : Nat) (hx : l[i]? = some ⟨20, 1, 0, 0, 0, 0⟩) : rowV headP l (f + 1) i 3 = some (i + 1, 1) := by
 unfold rowV
 simp only [hx]
 rw [if_pos (by decide), if_neg (by decide), if_neg (by decide)]
 rfl
end
theorem ev0 : eventV headP hd0 = true := by
 have r4 : ∀ f, rowV headP hd0 (f + 1) 4 0 = some (5, 1) := fun f => hrow6 f rfl
 have r3 : ∀ f, rowV headP hd0 (f + 2) 3 1 = some (5, 0) := fun f => hrow1 (f + 1) rfl rfl rfl (by decide) (r4 f)
 have r2 : ∀ f, rowV headP hd0 (f + 1) 2 3 = some (3, 1) := fun f => hrow20 f rfl
 have r1 : rowV headP hd0 5 1 0 = some (5, 1) := by
   unfold rowV
   rw [show hd0[1]? = some ⟨2, 0, 0, 0, 0, 2⟩ from rfl]
   simp only
   rw [if_pos (by decide), if_neg (by decide), if_neg (by decide)]
   simp [kidsV, kidsLoop, r2, r3]
   decide
 have r0 : rowV headP hd0 6 0 1 = some (5, 0) := hrow1 5 rfl rfl rfl (by decide) r1
 unfold eventV
 rw [show hd0.length + 1 = 6 from rfl, r0]
 rfl
theorem ev1_ : eventV headP hd1 = true := by
 have r2 : rowV headP hd1 2 2 0 = some (3, 1) := hrow6 1 rfl
 have r1 : rowV headP hd1 3 1 0 = some (3, 0) := hrow1 2 rfl rfl rfl (by decide) r2
 have r0 : rowV headP hd1 4 0 1 = some (3, 0) := hrow1 3 rfl rfl rfl (by decide) r1
 unfold eventV
 rw [show hd1.length + 1 = 4 from rfl, r0]
 rfl
theorem ev2_ : eventV headP hd2 = true := by
 have r1 : rowV headP hd2 2 1 0 = some (2, 1) := hrow6 1 rfl
 have r0 : rowV headP hd2 3 0 1 = some (2, 0) := hrow1 2 rfl rfl rfl (by decide) r1
 unfold eventV
 rw [show hd2.length + 1 = 3 from rfl, r0]
 rfl
theorem ev_ok {P : Pl} {l : List Ac} (h : eventV P l = true) (hl : l.length ≤ 131072) : EvOk l := ⟨ev_small h hl, hl, ev_lk h hl⟩
theorem head_check : checkV headP = 0 := by
 have h : eventV headP ([] : List Ac) = true := rfl
 unfold checkV
 rw [if_pos]
 simp only [Bool.and_eq_true, decide_eq_true_eq, List.all_eq_true]
 refine ⟨⟨⟨⟨⟨⟨⟨by decide, by decide⟩, by decide⟩, by decide⟩, by decide⟩, by decide⟩, by decide⟩, fun l hl => ?_⟩
 have : l = [] ∨ l = hd0 := by simpa [headP] using hl
 rcases this with rfl | rfl
 · exact h
 · exact ev0
theorem sp_of {l : List Ac} {i : Nat} {sp : List (Nat × Nat)} (h : kidsS l (rowL l i).n.toNat (i + 1) = some sp) : spL l i = sp := by unfold spL; rw [h]; rfl
theorem look01 : lookA hd0 0 = none := by
 unfold lookA
 rw [if_neg (by decide), show doingV hd0 0 (endL hd0 0) (rowL hd0 0) ((spL hd0 0).map (sub hd0)) (hsL hd0 (spL hd0 0)) (inbV hd0 0) = none by unfold doingV; rfl]
 rfl
theorem e2 : endS hd0 2 1 = some 3 := by
 repeat (first | rw [endS_stop (by decide)] | rw [endS_step (by decide) rfl])
theorem e3 : endS hd0 3 1 = some 5 := by
 repeat (first | rw [endS_stop (by decide)] | rw [endS_step (by decide) rfl])
theorem e1 : endS hd0 1 1 = some 5 := by
 repeat (first | rw [endS_stop (by decide)] | rw [endS_step (by decide) rfl])
theorem look02 : lookA hd0 1 = some ⟨8, 1, 5, some [⟨1, 0, 0, 0, 0, 1⟩, ⟨6, 0, 0, 0, 0, 0⟩], 1, 1⟩ := by
 have hsp : spL hd0 1 = [(2, 3), (3, 5)] := sp_of (by rw [show (rowL hd0 1).n.toNat = 2 from rfl]; simp [kidsS, e2, e3])
 unfold lookA
 rw [if_neg (by decide), hsp, endL_eq e1]
 rfl
theorem left0 : leftF hd0 = some ⟨8, 1, 5, some [⟨1, 0, 0, 0, 0, 1⟩, ⟨6, 0, 0, 0, 0, 0⟩], 1, 1⟩ := find_first (j := 1) (by decide) (fun i hi => by have e : i = 0 := (by omega); subst e; exact look01) look02
theorem done0 : doneV hd0 ⟨8, 1, 5, some [⟨1, 0, 0, 0, 0, 1⟩, ⟨6, 0, 0, 0, 0, 0⟩], 1, 1⟩ = hd1 := rfl
theorem f2 : endS hd1 2 1 = some 3 := by
 repeat (first | rw [endS_stop (by decide)] | rw [endS_step (by decide) rfl])
theorem f1 : endS hd1 1 1 = some 3 := by
 repeat (first | rw [endS_stop (by decide)] | rw [endS_step (by decide) rfl])
theorem look11 : lookA hd1 0 = none := by
 unfold lookA
 rw [if_neg (by decide), show doingV hd1 0 (endL hd1 0) (rowL hd1 0) ((spL hd1 0).map (sub hd1)) (hsL hd1 (spL hd1 0)) (inbV hd1 0) = none by unfold doingV; rfl]
 rfl
theorem look12 : lookA hd1 1 = some ⟨17, 1, 3, some [⟨6, 0, 0, 0, 0, 0⟩], 1, 1⟩ := by
 have hsp : spL hd1 1 = [(2, 3)] := sp_of (by rw [show (rowL hd1 1).n.toNat = 1 from rfl]; simp [kidsS, f2])
 unfold lookA
 rw [if_neg (by decide), hsp, endL_eq f1]
 rfl
theorem left1 : leftF hd1 = some ⟨17, 1, 3, some [⟨6, 0, 0, 0, 0, 0⟩], 1, 1⟩ := find_first (j := 1) (by decide) (fun i hi => by have e : i = 0 := (by omega); subst e; exact look11) look12
theorem done1 : doneV hd1 ⟨17, 1, 3, some [⟨6, 0, 0, 0, 0, 0⟩], 1, 1⟩ = hd2 := rfl
theorem left2 : leftF hd2 = none := find_none (fun i hi => by
 have : i = 0 ∨ i = 1 := by have : hd2.length = 2 := rfl; omega
 rcases this with rfl | rfl
 · unfold lookA
   rw [if_neg (by decide), show doingV hd2 0 (endL hd2 0) (rowL hd2 0) ((spL hd2 0).map (sub hd2)) (hsL hd2 (spL hd2 0)) (inbV hd2 0) = none by unfold doingV; rfl]
   rfl
 · unfold lookA
   rw [if_neg (by decide), show doingV hd2 1 (endL hd2 1) (rowL hd2 1) ((spL hd2 1).map (sub hd2)) (hsL hd2 (spL hd2 1)) (inbV hd2 1) = none by unfold doingV; rfl]
   rfl)
theorem head_left : leftPl headP = some (-1, ⟨8, 1, 5, some [⟨1, 0, 0, 0, 0, 1⟩, ⟨6, 0, 0, 0, 0, 0⟩], 1, 1⟩) :=
 find_first (j := 1) (by decide) (fun i hi => by have e : i = 0 := (by omega); subst e; rfl) (by show ((leftF hd0).map _) = _; rw [left0]; rfl)
theorem head_run : RunTo 2 hd0 hd2 :=
 .step (ev_ok ev0 (by decide)) left0 ⟨by decide, by decide, fun _ => ⟨0, rfl, by decide⟩, by decide, by decide⟩ (by
   rw [done0]
   exact .step (ev_ok ev1_ (by decide)) left1 ⟨by decide, by decide, fun _ => ⟨0, rfl, by decide⟩, by decide, by decide⟩ (by
     rw [done1]
     exact .stop (ev_ok ev2_ (by decide)) left2))
theorem nil_run : RunTo 0 [] [] := .stop (ev_ok (P := headP) rfl (by decide)) rfl
end Go.Proofs.Ytdpokdcendgfeaa
namespace Go.Proofs.Ytdpokdcendgfeaa
open Go.RowKit
set_option maxRecDepth 100000 in
theorem act_i (w : World) (k a n : Int) : Calls Try.prog 48 #[.int .i64 k, .int .i64 a, .int .i64 n] w fun en w' => en = .returned (.agg #[.int .i64 k, .int .i64 a, .int .i64 0, .int .i64 0, .int .i64 0, .int .i64 n]) ∧ Below w.heap.size w w' := by
 have HRES := hide (show Try.f48.results = #[.cell 6 49] by rfl)
 go_enter Try.func48, Try.ntmps48
 go_wp2_with fail
 refine bodyPost_ret (v := .agg #[.int .i64 k, .int .i64 a, .int .i64 0, .int .i64 0, .int .i64 0, .int .i64 n]) ?_ rfl ?_
 · simp only [results, HRES.out]
   go_simp
 exact ⟨rfl, (Below.refl _ w).alloc (Nat.le_refl _) _⟩
theorem runV_ok {w w' : World} {en : Ending} {P : Pl} {R : Nat → List Ac} (hc : checkV P = 0) (h : RunV w w' en P R) : ∃ (g v t o m : Value) (us : List Value), en = .returned (.tuple #[.agg #[g, v, t, o, m], .int .i64 0]) ∧ w'.ownsRow w.heap.size 4 1 g P.gh.length (bools P.gh) ∧ w'.ownsRow w.heap.size 51 3 v P.vs.length (vrs P.vs) ∧ w'.ownsRow w.heap.size 3 1 t P.ts.length (ints P.ts) ∧
   w'.ownsRow w.heap.size 26 1 o P.on.length us ∧ (∀ i, i < P.on.length → ∃ u, us[i]? = some u ∧ w'.ownsRow w.heap.size 49 6 u (R i).length (acs (R i))) ∧ w'.ownsRow w.heap.size 49 6 m (R P.on.length).length (acs (R P.on.length)) := by
 unfold RunV at h
 rw [if_pos hc] at h
 exact h
theorem hd2_len : hd2.length = 2 := rfl
def headV (gh go gm : Nat) : PlV := ⟨some ⟨gh, 0, none⟩, none, none, some ⟨go, 0, none⟩, some ⟨gm, 0, none⟩, 1, 1, 0, 0, 0, 0, 1, 1, 5, 5⟩
theorem head_mem {W : World} {gh go gm : Nat} {t1 t2 t3 : TypeId} (h1 : Blk W gh t1 (bools [false]).toArray) (h2 : Blk W go t2 (slv [((none : Option Addr), 0)] [[]]).toArray) (h3 : Blk W gm t3 (acs hd0).toArray) : PlMem W (headV gh go gm) headP [(none, 0)] :=
 ⟨rfl, rfl, rfl, rfl, rfl, src_blk 1 h1, src_nil W _, src_nil W _, src_blk 1 h2, ⟨rfl, fun i oa c l e1 e2 => by
   match i with
   | 0 =>
     simp [headP] at e1 e2
     obtain ⟨rfl, rfl⟩ := e1
     subst e2
     exact ⟨src_nil W _, by simp, by decide⟩
   | 1 =>
     simp [headP, headV] at e1 e2
     obtain ⟨rfl, rfl⟩ := e1
     subst e2
     exact ⟨src_blk 5 h3, by decide, by decide⟩
   | i + 2 => simp [headP] at e1⟩, by decide, by decide, by decide, by decide⟩
theorem head_ev (k : Nat) (h : k ≤ headP.on.length) : (k = 0 ∧ evP headP k = []) ∨ (k = 1 ∧ evP headP k = hd0) := by
 have : k = 0 ∨ k = 1 := by have : headP.on.length = 1 := rfl; omega
 rcases this with rfl | rfl
 · exact .inl ⟨rfl, rfl⟩
 · exact .inr ⟨rfl, rfl⟩
set_option maxRecDepth 100000 in
theorem headP_i (w : World) : Calls Try.prog 25 #[] w fun en w' => en = .returned (.bool true) ∧ Below w.heap.size w w' := by
 have HA := hide (fun (W : World) (k a n : Int) => act_i W k a n)
 have HB0 := hide (((Below.refl w.heap.size w).alloc (Nat.le_refl _) (.cells #[.bool false] 4)).alloc (by simp) (.cells #[.slice none 0 0] 26))
 have HG0 := hide (show Blk ((w.alloc (.cells #[.bool false] 4)).alloc (.cells #[.slice none 0 0] 26)) w.heap.size 4 #[.bool false] from (Blk.new w _ _).alloc _)
 have HO0 := hide (show Blk ((w.alloc (.cells #[.bool false] 4)).alloc (.cells #[.slice none 0 0] 26)) (w.heap.size + 1) 26 #[.slice none 0 0] from by have h9 := Blk.new (w.alloc (.cells #[.bool false] 4)) 26 #[.slice none 0 0]; rwa [show (w.alloc (.cells #[.bool false] 4)).heap.size = w.heap.size + 1 by simp] at h9)
 have HBC := hide (Below.refl ((w.alloc (.cells #[.bool false] 4)).alloc (.cells #[.slice none 0 0] 26)).heap.size ((w.alloc (.cells #[.bool false] 4)).alloc (.cells #[.slice none 0 0] 26)))
 go_enter Try.func25, Try.ntmps25
 go_upto_region 2 with (go_at_call 48; refine (HA.out _ _ _ _).mono ?_; rintro en w8 ⟨rfl, hb8⟩; have HBN := hide (HBC.out.trans (hb8.mono HBC.out.size)); clear hb8 HBC; have HBC := HBN; clear HBN)
 have HBW := hide (HB0.out.trans (HBC.out.mono HB0.out.size))
 have HG8 := hide (HG0.out.below HBC.out HG0.out.lt)
 have HO8 := hide (HO0.out.below HBC.out HO0.out.lt)
 clear HBC HG0 HO0 HB0
 obtain ⟨gh, hgh⟩ : ∃ g, w.heap.size = g := ⟨_, rfl⟩
 obtain ⟨go, hgo⟩ : ∃ g, w.heap.size + 1 = g := ⟨_, rfl⟩
 obtain ⟨gm, hgm⟩ : ∃ g, w8.heap.size = g := ⟨_, rfl⟩
 obtain ⟨gb, hgb⟩ : ∃ g, w8.heap.size + 1 = g := ⟨_, rfl⟩
 rw [hgo] at HO8
 rw [hgh] at HG8
 simp only [hgb, hgo]
 simp only [hgm, hgh]
 have HM8 := hide ((Blk.new w8 49 #[.int .i64 1, .int .i64 0, .int .i64 0, .int .i64 0, .int .i64 0, .int .i64 1, .int .i64 2, .int .i64 0, .int .i64 0, .int .i64 0, .int .i64 0, .int .i64 2, .int .i64 20, .int .i64 1, .int .i64 0, .int .i64 0, .int .i64 0, .int .i64 0, .int .i64 1, .int .i64 0, .int .i64 0, .int .i64 0, .int .i64 0, .int .i64 1, .int .i64 6, .int .i64 0, .int .i64 0, .int .i64 0, .int .i64 0, .int .i64 0]).alloc (.cells #[.slice (some ⟨gh, 0, none⟩) 1 1, .slice none 0 0, .slice none 0 0, .slice (some ⟨go, 0, none⟩) 1 1, .slice (some ⟨gm, 0, none⟩) 5 5] 28))
 have HP8 := hide (Blk.new (w8.alloc (.cells #[.int .i64 1, .int .i64 0, .int .i64 0, .int .i64 0, .int .i64 0, .int .i64 1, .int .i64 2, .int .i64 0, .int .i64 0, .int .i64 0, .int .i64 0, .int .i64 2, .int .i64 20, .int .i64 1, .int .i64 0, .int .i64 0, .int .i64 0, .int .i64 0, .int .i64 1, .int .i64 0, .int .i64 0, .int .i64 0, .int .i64 0, .int .i64 1, .int .i64 6, .int .i64 0, .int .i64 0, .int .i64 0, .int .i64 0, .int .i64 0] 49)) 28 #[.slice (some ⟨gh, 0, none⟩) 1 1, .slice none 0 0, .slice none 0 0, .slice (some ⟨go, 0, none⟩) 1 1, .slice (some ⟨gm, 0, none⟩) 5 5])
 have HG9 := hide ((HG8.out.alloc (.cells #[.int .i64 1, .int .i64 0, .int .i64 0, .int .i64 0, .int .i64 0, .int .i64 1, .int .i64 2, .int .i64 0, .int .i64 0, .int .i64 0, .int .i64 0, .int .i64 2, .int .i64 20, .int .i64 1, .int .i64 0, .int .i64 0, .int .i64 0, .int .i64 0, .int .i64 1, .int .i64 0, .int .i64 0, .int .i64 0, .int .i64 0, .int .i64 1, .int .i64 6, .int .i64 0, .int .i64 0, .int .i64 0, .int .i64 0, .int .i64 0] 49)).alloc (.cells #[.slice (some ⟨gh, 0, none⟩) 1 1, .slice none 0 0, .slice none 0 0, .slice (some ⟨go, 0, none⟩) 1 1, .slice (some ⟨gm, 0, none⟩) 5 5] 28))
 have HO9 := hide ((HO8.out.alloc (.cells #[.int .i64 1, .int .i64 0, .int .i64 0, .int .i64 0, .int .i64 0, .int .i64 1, .int .i64 2, .int .i64 0, .int .i64 0, .int .i64 0, .int .i64 0, .int .i64 2, .int .i64 20, .int .i64 1, .int .i64 0, .int .i64 0, .int .i64 0, .int .i64 0, .int .i64 1, .int .i64 0, .int .i64 0, .int .i64 0, .int .i64 0, .int .i64 1, .int .i64 6, .int .i64 0, .int .i64 0, .int .i64 0, .int .i64 0, .int .i64 0] 49)).alloc (.cells #[.slice (some ⟨gh, 0, none⟩) 1 1, .slice none 0 0, .slice none 0 0, .slice (some ⟨go, 0, none⟩) 1 1, .slice (some ⟨gm, 0, none⟩) 5 5] 28))
 have HBW2 := hide ((HBW.out.alloc HBW.out.size (.cells #[.int .i64 1, .int .i64 0, .int .i64 0, .int .i64 0, .int .i64 0, .int .i64 1, .int .i64 2, .int .i64 0, .int .i64 0, .int .i64 0, .int .i64 0, .int .i64 2, .int .i64 20, .int .i64 1, .int .i64 0, .int .i64 0, .int .i64 0, .int .i64 0, .int .i64 1, .int .i64 0, .int .i64 0, .int .i64 0, .int .i64 0, .int .i64 1, .int .i64 6, .int .i64 0, .int .i64 0, .int .i64 0, .int .i64 0, .int .i64 0] 49)).alloc (by simp; have := HBW.out.size; omega) (.cells #[.slice (some ⟨gh, 0, none⟩) 1 1, .slice none 0 0, .slice none 0 0, .slice (some ⟨go, 0, none⟩) 1 1, .slice (some ⟨gm, 0, none⟩) 5 5] 28))
 rw [show (w8.alloc (.cells #[.int .i64 1, .int .i64 0, .int .i64 0, .int .i64 0, .int .i64 0, .int .i64 1, .int .i64 2, .int .i64 0, .int .i64 0, .int .i64 0, .int .i64 0, .int .i64 2, .int .i64 20, .int .i64 1, .int .i64 0, .int .i64 0, .int .i64 0, .int .i64 0, .int .i64 1, .int .i64 0, .int .i64 0, .int .i64 0, .int .i64 0, .int .i64 1, .int .i64 6, .int .i64 0, .int .i64 0, .int .i64 0, .int .i64 0, .int .i64 0] 49)).heap.size = gb by rw [← hgb]; simp] at HP8
 rw [hgm] at HM8
 have HGH := hide hgh
 clear hgo hgm hgb hgh
 generalize ((w8.alloc (.cells #[.int .i64 1, .int .i64 0, .int .i64 0, .int .i64 0, .int .i64 0, .int .i64 1, .int .i64 2, .int .i64 0, .int .i64 0, .int .i64 0, .int .i64 0, .int .i64 2, .int .i64 20, .int .i64 1, .int .i64 0, .int .i64 0, .int .i64 0, .int .i64 0, .int .i64 1, .int .i64 0, .int .i64 0, .int .i64 0, .int .i64 0, .int .i64 1, .int .i64 6, .int .i64 0, .int .i64 0, .int .i64 0, .int .i64 0, .int .i64 0] 49)).alloc (.cells #[.slice (some ⟨gh, 0, none⟩) 1 1, .slice none 0 0, .slice none 0 0, .slice (some ⟨go, 0, none⟩) 1 1, .slice (some ⟨gm, 0, none⟩) 5 5] 28)) = W1 at HM8 HP8 HG9 HO9 HBW2 ⊢
 have HM := hide (head_mem (t1 := 4) (t2 := 26) (t3 := 49) HG9.out HO9.out HM8.out)
 have hL := leftP_i W1 (headV gh go gm) headP [(none, 0)] HM.out (fun l hl => by have h9 : l = [] ∨ l = hd0 := (by simpa [headP] using hl); rcases h9 with rfl | rfl <;> decide) (fun _ => ⟨by decide, fun k => by
   by_cases hk : k ≤ headP.on.length
   · rcases head_ev k hk with ⟨_, e⟩ | ⟨_, e⟩
     · rw [e]; exact ev_ok (P := headP) rfl (by decide)
     · rw [e]; exact ev_ok ev0 (by decide)
   · have e : evP headP k = [] := by
       unfold evP
       rw [List.getElem?_eq_none (by simp; omega)]
       rfl
     rw [e]; exact ev_ok (P := headP) rfl (by decide)⟩)
 have hlr : leftRes headP = (-1, 1, 8, true) := by unfold leftRes; rw [if_pos head_check, head_left]; rfl
 rw [hlr] at hL
 simp only [PlV.val, headV] at hL
 have HL := hide hL
 have HR := hide (fun (W : World) (hb : Below W1.heap.size W1 W) => run_i W (headV gh go gm) headP [(none, 0)] (HM.out.below hb) (fun l hl => by have h9 : l = [] ∨ l = hd0 := (by simpa [headP] using hl); rcases h9 with rfl | rfl <;> decide) (fun k => if k = 0 then [] else hd2) (fun k => if k = 0 then 0 else 2) (fun _ => ⟨⟨by decide, by decide, by decide, by decide, fun l hl => by have h9 : l = [] ∨ l = hd0 := (by simpa [headP] using hl); rcases h9 with rfl | rfl <;> decide⟩, fun k hk => by
   rcases head_ev k hk with ⟨rfl, e⟩ | ⟨rfl, e⟩
   · rw [e]; exact nil_run
   · rw [e]; exact head_run⟩))
 simp only [PlV.val, headV] at HR
 obtain ⟨b0, b1, b2, b3, b4, hgl⟩ := blk5x HP8.out
 have HGL := hide hgl
 have HBS := hide (And.intro b0 (And.intro b1 (And.intro b2 (And.intro b3 b4))))
 clear hL hlr
 go_upto_region 3 with (go_at_call 28; with_reducible refine HL.out.mono ?_; rintro en W2 ⟨rfl, hb2⟩; have HB2 := hide hb2; clear hb2)
 have HR2 := hide (HR.out W2 HB2.out)
 have c0 := (HB2.out.cell (p := ⟨gb, 0, none⟩) hgl).trans b0
 have c1 := (HB2.out.cell (p := ⟨gb, 1, none⟩) hgl).trans b1
 have c2 := (HB2.out.cell (p := ⟨gb, 2, none⟩) hgl).trans b2
 have c3 := (HB2.out.cell (p := ⟨gb, 3, none⟩) hgl).trans b3
 have c4 := (HB2.out.cell (p := ⟨gb, 4, none⟩) hgl).trans b4
 clear b0 b1 b2 b3 b4
 go_upto_region 4 with (go_at_call 33; go_must (with_reducible refine HR2.out.mono ?_; rintro en W3 ⟨hr3, hb3⟩; obtain ⟨vg, vv, vt, vo, vm, us, e3, eg, ev, et, eo, eu, em⟩ := runV_ok head_check hr3; subst e3; obtain ⟨og, cg, e1⟩ := own_slice eg; obtain ⟨ov, cv, e2⟩ := own_slice ev; obtain ⟨ot, ct, e3⟩ := own_slice et; obtain ⟨oo, co, e4⟩ := own_slice eo; rw [if_neg (show ¬ headP.on.length = 0 by decide)] at em; rw [hd2_len] at em; have em2 : W3.ownsRow W2.heap.size 49 6 vm 2 (acs hd2) := em; clear em; have em := em2; obtain ⟨gq, cm, e5, hcm, hcm2⟩ := own_form em (by decide); subst e1 e2 e3 e4 e5; have HEM := hide em; have HB3 := hide hb3; clear eg ev et eo eu em hb3 hr3))
 have HB4 := hide (HB3.out.alloc HB3.out.size (.cells #[.slice og headP.gh.length cg, .slice ov headP.vs.length cv, .slice ot headP.ts.length ct, .slice oo headP.on.length co, .slice (some ⟨gq, 0, none⟩) 2 cm] 28))
 have HX4 := hide (Blk.new W3 28 #[.slice og headP.gh.length cg, .slice ov headP.vs.length cv, .slice ot headP.ts.length ct, .slice oo headP.on.length co, .slice (some ⟨gq, 0, none⟩) 2 cm])
 have HE4 := hide (own_keep (w' := W3.alloc (.cells #[.slice og headP.gh.length cg, .slice ov headP.vs.length cv, .slice ot headP.ts.length ct, .slice oo headP.on.length co, .slice (some ⟨gq, 0, none⟩) 2 cm] 28)) HEM.out (fun g hg => Below.heap_alloc _ _ g (HEM.out.lt g hg).2))
 generalize W3.alloc (.cells #[.slice og headP.gh.length cg, .slice ov headP.vs.length cv, .slice ot headP.ts.length ct, .slice oo headP.on.length co, .slice (some ⟨gq, 0, none⟩) 2 cm] 28) = W4 at HB4 HX4 HE4 ⊢
 obtain ⟨gx, hgx⟩ : ∃ g, W3.heap.size = g := ⟨_, rfl⟩
 rw [hgx] at HX4
 simp only [hgx]
 clear hgx
 obtain ⟨a0, ea, hab, p0, p1, p2, p3, p4, p5⟩ := acs_row (own_src HE4.out) (show hd2[0]? = some ⟨1, 0, 0, 0, 0, 1⟩ from rfl)
 injection ea with ea
 subst ea
 obtain ⟨a0, ea, _, q0, q1, q2, q3, q4, q5⟩ := acs_row (own_src HE4.out) (show hd2[1]? = some ⟨6, 0, 0, 0, 0, 0⟩ from rfl)
 injection ea with ea
 subst ea
 have hab2 : gq < W4.heap.size := hab
 simp only [show (⟨gq, 0, none⟩ : Addr).add (0 * 6) = ⟨gq, 0, none⟩ from rfl, show (⟨gq, 0, none⟩ : Addr).add (1 * 6) = ⟨gq, 6, none⟩ from rfl] at p0 p1 p2 p3 p4 p5 q0 q1 q2 q3 q4 q5
 have x4 := (blk5x HX4.out).2.2.2.2.1
 have hgl4 := HX4.out.lt
 have f0 := fun (z : Grown W4) => (z.b.cell (p := ⟨gx, 4, none⟩) hgl4).trans x4
 have g0 := fun (z : Grown W4) => (z.b.cell (p := ⟨gq, 0, none⟩) hab2).trans p0
 have g1 := fun (z : Grown W4) => (z.b.cell (p := ⟨gq, 0 + 1, none⟩) hab2).trans p1
 have g2 := fun (z : Grown W4) => (z.b.cell (p := ⟨gq, 0 + 2, none⟩) hab2).trans p2
 have g3 := fun (z : Grown W4) => (z.b.cell (p := ⟨gq, 0 + 3, none⟩) hab2).trans p3
 have g4 := fun (z : Grown W4) => (z.b.cell (p := ⟨gq, 0 + 4, none⟩) hab2).trans p4
 have g5 := fun (z : Grown W4) => (z.b.cell (p := ⟨gq, 0 + 5, none⟩) hab2).trans p5
 have g6 := fun (z : Grown W4) => (z.b.cell (p := ⟨gq, 6, none⟩) hab2).trans q0
 have g7 := fun (z : Grown W4) => (z.b.cell (p := ⟨gq, 6 + 1, none⟩) hab2).trans q1
 have g8 := fun (z : Grown W4) => (z.b.cell (p := ⟨gq, 6 + 2, none⟩) hab2).trans q2
 have g9 := fun (z : Grown W4) => (z.b.cell (p := ⟨gq, 6 + 3, none⟩) hab2).trans q3
 have g10 := fun (z : Grown W4) => (z.b.cell (p := ⟨gq, 6 + 4, none⟩) hab2).trans q4
 have g11 := fun (z : Grown W4) => (z.b.cell (p := ⟨gq, 6 + 5, none⟩) hab2).trans q5
 simp only [Nat.zero_add, Nat.reduceAdd] at g0 g1 g2 g3 g4 g5 g6 g7 g8 g9 g10 g11
 have he1 := fun (W : World) => (eqA W 1 0 0 0 0 1 1 0 0 0 0 1).trans (by simp : _ = Result.ok (.bool true) W)
 have he2 := fun (W : World) => (eqA W 6 0 0 0 0 0 6 0 0 0 0 0).trans (by simp : _ = Result.ok (.bool true) W)
 have hgd := g49
 clear c0 c1 c2 c3 c4 x4 p0 p1 p2 p3 p4 p5 q0 q1 q2 q3 q4 q5 hgl hab hcm hcm2
 refine wp_region_grown (Below.refl W4.heap.size W4) (by kernel_rfl) (by kernel_rfl) ?_
 repeat (go_big_quiet_step (first | (go_at_call 48; exact grown_call (HA.out _ _ _ _)) | fail))
 refine wpQuiet_nil ?_
 intro w1 hw1
 obtain ⟨⟨w1, hb1⟩, rfl⟩ := hw1
 have HBF := hide (HBW2.out.trans ((HB2.out.trans ((HB4.out.trans (hb1.mono HB4.out.size)).mono HB2.out.size)).mono HBW2.out.size))
 clear hb1 f0 g0 g1 g2 g3 g4 g5 g6 g7 g8 g9 g10 g11
 go_wp2_with fail
 go_ret
 exact ⟨rfl, HBF.out⟩
end Go.Proofs.Ytdpokdcendgfeaa
