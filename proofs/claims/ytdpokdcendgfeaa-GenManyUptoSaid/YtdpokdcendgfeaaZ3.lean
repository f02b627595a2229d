/- Several texts in one: The walk of gen.ends. gen's writer in memory; the walks of here, kids. The walks of gen's say, here, kids. The walk of gen's say. The walks of gen's jump and of its closure, and of item. The walk of gen's item. How gen's act goes on: the state of its walk, and each call as a step. Act's own variables; a row's kids, by its kind. Conditions: those of each. -/
import Derived.Test.YtdpokdcendgfeaaZ2
import Derived.Laws.MakeOwn
import Derived.Test.YtdpokdcendgfeaaZ1
import Derived.Maps.AppendAt
import Derived.Deep.CutBlock
import Derived.Deep.DeepCutAuto
set_option linter.unusedSimpArgs false
set_option linter.unusedVariables false
set_option maxHeartbeats 40000000
namespace Go.Proofs.Ytdpokdcendgfeaa
open Go.RowKit
def chainEnd : Nat → List (Nat × Nat) → Nat
 | k, [] => k
 | _, r :: sp => chainEnd r.2 sp
theorem kids_chain {R : Int → Nat → Nat → Prop} : ∀ (ws : List Int) (i : Nat) (sp : List (Nat × Nat)) (e : Nat), Kids R ws i sp e → chainEnd i sp = e
 | [], i, [], e, h => h
 | w :: ws, i, r :: sp, e, h => kids_chain ws _ sp e h.2.2
 | [], i, r :: sp, e, h => by simp [Kids] at h
 | w :: ws, i, [], e, h => by simp [Kids] at h
theorem kids_count {R : Int → Nat → Nat → Prop} (hR : ∀ w i e, R w i e → i < e) : ∀ (ws : List Int) (i : Nat) (sp : List (Nat × Nat)) (e : Nat), Kids R ws i sp e → i + sp.length ≤ e
 | [], i, [], e, h => by simp only [Kids] at h; simp; omega
 | w :: ws, i, r :: sp, e, h => by
   obtain ⟨rfl, h2, h3⟩ := h
   have := hR _ _ _ h2
   have := kids_count hR ws _ sp e h3
   simp
   omega
 | [], i, r :: sp, e, h => by simp [Kids] at h
 | w :: ws, i, [], e, h => by simp [Kids] at h
/-- a row whose kids have ends -/
def RowOk (l : List Ac) (a : Nat) : Prop := ∃ x sp E, l[a]? = some x ∧ 0 ≤ x.n ∧ x.n ≤ (l.length : Int) ∧ kidsS l x.n.toNat (a + 1) = some sp ∧ endS l a 1 = some E ∧ chainEnd (a + 1) sp = E
theorem rowOk_of {P : Pl} {l : List Ac} : ∀ (f : Nat) (what : Int) (i e : Nat), Wf P l f what i e → RowOk l i
 | 0, what, i, e, h => h.elim
 | f + 1, what, i, e, h => by
   have h1 := wf_end1 h
   obtain ⟨x, sp, hx, _, _, h0, hn, hk, _⟩ := h
   have hl := kids_length _ _ _ _ hk
   have hw := wants_length (k0 := ((l[i + 1]?.map Ac.k).getD 0)) h0 hn
   have hc := kids_count (fun w i e h => (wf_le f w i e h).1) _ _ _ _ hk
   have hxl := (List.getElem?_eq_some_iff.1 hx).1
   have hle := kids_le (wf_le f) _ _ _ _ hk (by omega)
   have hks := kids_kidsS (fun w i e h => wf_end1 h) _ _ _ _ hk
   refine ⟨x, sp, e, hx, h0, by omega, ?_, h1, kids_chain _ _ _ _ hk⟩
   rw [← hks]
   congr 1
   omega
theorem rowOk_all {P : Pl} {l : List Ac} {f : Nat} {what : Int} (h : Wf P l f what 0 l.length) (i : Nat) (hi : i < l.length) : RowOk l i := by
 obtain ⟨f', w', e', h1, _⟩ := wf_in f what 0 l.length h i (Nat.zero_le _) hi
 exact rowOk_of _ _ _ _ h1
/-- ends, from the place m on -/
def endsF (l : List Ac) (m : Nat) : List Int := (List.range l.length).map fun j => if m ≤ j then (((endS l j 1).getD 0 : Nat) : Int) else 0
theorem endsF_length (l : List Ac) (m : Nat) : (endsF l m).length = l.length := by simp [endsF]
theorem endsF_start (l : List Ac) : endsF l l.length = List.replicate l.length 0 := by
 apply List.ext_getElem?
 intro j
 simp only [endsF, List.getElem?_map, List.getElem?_replicate]
 by_cases hj : j < l.length
 · rw [List.getElem?_range hj, if_pos hj, Option.map_some, if_neg (by omega)]
 · rw [List.getElem?_eq_none (by simp; omega), if_neg hj]
   rfl
theorem endsF_get {l : List Ac} {m j e : Nat} (h1 : m ≤ j) (h2 : j < l.length) (he : endS l j 1 = some e) : (endsF l m)[j]? = some (e : Int) := by
 simp only [endsF, List.getElem?_map, List.getElem?_range h2, Option.map_some, if_pos h1, he, Option.getD_some]
theorem endsF_set {l : List Ac} {a e : Nat} (h2 : a < l.length) (he : endS l a 1 = some e) : (endsF l (a + 1)).set a (e : Int) = endsF l a := by
 apply List.ext_getElem?
 intro j
 rw [List.getElem?_set, endsF_length]
 by_cases hj : a = j
 · subst hj
   rw [if_pos rfl, if_pos h2, endsF_get (Nat.le_refl _) h2 he]
 · rw [if_neg hj]
   simp only [endsF, List.getElem?_map]
   by_cases hl : j < l.length
   · rw [List.getElem?_range hl]
     simp only [Option.map_some]
     by_cases h : a ≤ j
     · rw [if_pos (by omega), if_pos h]
     · rw [if_neg (by omega), if_neg h]
   · rw [List.getElem?_eq_none (by simp; omega)]
     rfl
theorem run_make_rowN {P : Program} (t e : TypeId) (i : TypeInfo) (z : Value) (ht : P.underlying t = some (.slice e)) (hi : P.info? e = some i) (hz : i.zero = some z)
   (kl kc : IntKind) (n c : Nat) (hnc : n ≤ c) (hbytes : i.bytes * c ≤ 281474976710656) (h63 : c ≤ 9223372036854775807) (w : World) :
   (Instr.makeSlice t (.int kl (n : Int)) (.int kc (c : Int))).run P w = .ok (.slice (some ⟨w.heap.size, 0, none⟩) n c) (w.alloc (.cells (madeCells z.cells (c * i.size)) e)) := by
 have hb : (i.bytes : Int) * (c : Int) ≤ 281474976710656 := by
   have h : ((i.bytes * c : Nat) : Int) ≤ 281474976710656 := by omega
   rwa [Int.natCast_mul] at h
 have hr := run_make (P := P) w t e i z ht hi hz kl kc n c (by omega) (by omega) hb (by omega)
 simp only [Int.toNat_natCast] at hr
 exact hr
theorem made_ints (n : Nat) : madeCells #[.int .i64 0] (n * 1) = (ints (List.replicate n 0)).toArray := by
 apply Array.ext_getElem?
 intro j
 by_cases hj : j < n
 · simp [madeCells, ints, hj, Nat.mod_one]
 · simp [madeCells, ints, hj]
theorem make_ints (w : World) (n : Nat) (h : n ≤ 4194304) : (Instr.makeSlice 24 (.int .i64 (n : Int)) (.int .i64 (n : Int))).run Try.prog w = .ok (.slice (some ⟨w.heap.size, 0, none⟩) n n) (w.alloc (.cells (ints (List.replicate n 0)).toArray 3)) := by
 obtain ⟨i0, hi, hz0, hz1, hz2⟩ := info_parts3 infI
 have := run_make_rowN (P := Try.prog) 24 3 i0 (.int .i64 0) Try.underlying24 hi hz0 .i64 .i64 n n (Nat.le_refl _) (by rw [hz2]; omega) (by omega) w
 rw [hz1, show (Value.int IntKind.i64 0).cells = #[.int .i64 0] from rfl, made_ints] at this
 exact this
theorem ints_get {l : List Int} {j : Nat} {x : Int} (h : l[j]? = some x) : (ints l)[j]? = some (.int .i64 x) := by simp [ints, h]
theorem ints_set (l : List Int) (j : Nat) (x : Int) : (ints l).toArray.setIfInBounds j (.int .i64 x) = (ints (l.set j x)).toArray := by simp [ints, List.map_set]
theorem blk_int {W : World} {g : Nat} {l : List Int} {t : TypeId} (h : Blk W g t (ints l).toArray) {j : Nat} {x : Int} (hj : l[j]? = some x) : W.cell? ⟨g, j, none⟩ = some (.int .i64 x) := by
 rw [h.cell]
 simpa using ints_get hj
set_option maxRecDepth 100000 in
theorem ends_i (w : World) (ad : Addr) (c : Nat) (l : List Ac) (h : Src w (some ad) l.length (acs l)) (hl : l.length ≤ 262144) (h0 : 0 < l.length) (hok : ∀ i, i < l.length → RowOk l i) :
   Calls Try.prog 70 #[.slice (some ad) l.length c] w fun en w' => en = .returned (.slice (some ⟨w.heap.size, 0, none⟩) l.length l.length) ∧ Blk w' w.heap.size 3 (ints (endsF l 0)).toArray ∧ Below w.heap.size w w' := by
 have HS := hide h
 have HOK := hide hok
 have HMK := hide (make_ints w l.length (by omega))
 have hmk := HMK.out
 have HB0 := hide ((Below.refl w.heap.size w).alloc (Nat.le_refl _) (.cells (ints (List.replicate l.length 0)).toArray 3))
 have HK0 := hide (Blk.new w 3 (ints (List.replicate l.length 0)).toArray)
 have hL : (0 : Int) < (l.length : Int) := by omega
 have u1 := IntWalk.i64_in ((l.length : Int) - 1) (by omega)
 clear h hok
 go_enter Try.func70, Try.ntmps70
 go_wp2_with fail
 clear hmk
 go_loopw [4] (fun t4 W => ∃ m : Nat, t4 = .int .i64 ((m : Int) - 1) ∧ m ≤ l.length ∧ Blk W w.heap.size 3 (ints (endsF l m)).toArray ∧ Below w.heap.size w W) (fun t4 _ => (intOf t4 + 1).toNat)
 case atStart => exact ⟨l.length, rfl, Nat.le_refl _, by rw [endsF_start]; exact HK0.out, HB0.out⟩
 case round =>
   obtain ⟨m, rfl, hm, hk, hb⟩ := hrel
   rename World => W
   by_cases hm0 : m = 0
   · subst hm0
     have HK := hide hk
     have HB := hide hb
     clear hk hb
     go_wp2_with fail
     go_ret
     exact ⟨rfl, HK.out, HB.out⟩
   · obtain ⟨a, rfl⟩ : ∃ a, m = a + 1 := ⟨m - 1, by omega⟩
     obtain ⟨x, sp, E, hx, hx0, hx1, hks, hE, hch⟩ := HOK.out a (by omega)
     obtain ⟨N, hN⟩ : ∃ N : Nat, x.n = (N : Int) := ⟨x.n.toNat, by omega⟩
     rw [hN] at hks
     simp only [Int.toNat_natCast] at hks
     have hwa : (((a + 1 : Nat) : Int) - 1) = (a : Int) := by omega
     rw [hwa]
     have ha0 : (0 : Int) ≤ (a : Int) := by omega
     have haL : (a : Int) < (l.length : Int) := by omega
     have u2 := IntWalk.i64_in ((a : Int) + 1) (by omega)
     have hca := hk.cell a
     have hae : ((ints (endsF l (a + 1))).toArray)[a]? = some (.int .i64 0) := by
       simp [ints, endsF, show a < l.length by omega]
       intro h9
       omega
     rw [hae] at hca
     have hfz := hk.frozen a
     have hbk := hk.lt
     have HK2 := hide (hk.set_ a (.int .i64 ((a : Int) + 1)))
     have HB2 := hide (hb.setCell (p := ⟨w.heap.size, a, none⟩) (Nat.le_refl _) (.int .i64 ((a : Int) + 1)))
     have HKS := hide hks
     have HE := hide hE
     have HCH := hide hch
     obtain ⟨ad', e', hab, _, _, _, _, _, q5⟩ := acs_row (HS.out.below HB2.out) hx
     cases e'
     rw [hN] at q5
     have hNb : (N : Int) ≤ (l.length : Int) := by omega
     clear hk hb hae hks hE hch hx hx0 hx1 hN hab hwa hm0
     go_wp2_with fail
     go_loopw [25] (fun t25 W' => ∃ (j k : Nat) (rest : List (Nat × Nat)), t25 = .int .i64 (j : Int) ∧ j ≤ N ∧ a + 1 ≤ k ∧ k ≤ l.length ∧ kidsS l (N - j) k = some rest ∧ chainEnd k rest = E ∧ Blk W' w.heap.size 3 (ints ((endsF l (a + 1)).set a (k : Int))).toArray ∧ Below w.heap.size w W') (fun t25 _ => N - (intOf t25).toNat)
     case atStart =>
       refine ⟨0, a + 1, sp, rfl, Nat.zero_le _, Nat.le_refl _, hm, HKS.out, HCH.out, ?_, HB2.out⟩
       have := HK2.out
       rw [ints_set] at this
       exact this
     case round =>
       clear HK2 HB2 HKS q5 hca hfz
       obtain ⟨j, k, rest, rfl, hj, hka, hkl, hks, hch, hk, hb⟩ := hrel
       rename World => W'
       have hq2 := IntWalk.i64_in ((j : Int) + 1) (by omega)
       have hga : ((endsF l (a + 1)).set a (k : Int))[a]? = some (k : Int) := by rw [List.getElem?_set, if_pos rfl, if_pos (by rw [endsF_length]; omega)]
       by_cases hjn : j < N
       · have hjI : (j : Int) < (N : Int) := by omega
         obtain ⟨m, hm2⟩ : ∃ m, N - j = m + 1 := ⟨N - j - 1, by omega⟩
         rw [hm2] at hks
         simp only [kidsS] at hks
         cases he : endS l k 1 with
         | none => simp [he] at hks
         | some e =>
           simp only [he] at hks
           cases hr : kidsS l m e with
           | none => simp [hr] at hks
           | some r2 =>
             simp only [hr, Option.map_some, Option.some.injEq] at hks
             have hle := endS_le l _ k 1 e rfl he hkl
             have hkl2 : k < l.length := by omega
             have hgk : ((endsF l (a + 1)).set a (k : Int))[k]? = some (e : Int) := by rw [List.getElem?_set, if_neg (by omega)]; exact endsF_get hka hkl2 he
             have c1 := blk_int hk hga
             have c2 := blk_int hk hgk
             have f1 := hk.frozen a
             have hbk2 := hk.lt
             have hk0 : (0 : Int) ≤ (k : Int) := by omega
             have hk1 : (k : Int) < (l.length : Int) := by omega
             have HR := hide (show kidsS l (N - (j + 1)) e = some r2 by rw [show N - (j + 1) = m by omega]; exact hr)
             have HC2 := hide (show chainEnd e r2 = E by rw [← hks] at hch; exact hch)
             have HK3 := hide (hk.set_ a (.int .i64 (e : Int)))
             have HB3 := hide (hb.setCell (p := ⟨w.heap.size, a, none⟩) (Nat.le_refl _) (.int .i64 (e : Int)))
             obtain ⟨l1, l2, l3⟩ := hle
             have l3' := l3 (by omega)
             clear hks he hr hch hk hb hga hgk l3 hm2
             go_wp2_with fail
             go_roundw
             case rel =>
               refine ⟨j + 1, e, r2, by go_num, by omega, by omega, l2, HR.out, HC2.out, ?_, HB3.out⟩
               have := HK3.out
               rw [ints_set, List.set_set] at this
               exact this
             case measure =>
               simp only [intOf]
               omega
       · have hjn2 : j = N := by omega
         have hre : rest = [] := by rw [hjn2, Nat.sub_self] at hks; simpa [kidsS] using hks.symm
         have hkE : k = E := by rw [hre] at hch; exact hch
         have HF := hide (show Blk W' w.heap.size 3 (ints (endsF l a)).toArray by rw [hkE, endsF_set (by omega) HE.out] at hk; exact hk)
         have HB4 := hide hb
         have hjI : ¬ (j : Int) < (N : Int) := by omega
         have u3 := IntWalk.i64_in ((a : Int) - 1) (by omega)
         clear hks hch hk hb hga hjn2 hre hkE
         go_wp2_with fail
         go_roundw
         case rel => exact ⟨a, rfl, by omega, HF.out, HB4.out⟩
         case measure =>
           simp only [intOf]
           omega
end Go.Proofs.Ytdpokdcendgfeaa
namespace Go.Proofs.Ytdpokdcendgfeaa
open Go.RowKit
theorem infR : (Try.prog.info? 56).map (fun i => (i.zero, i.size, i.bytes)) = some (some (.agg #[.int .i64 0, .int .i64 0, .int .i64 0, .int .i64 0, .int .i64 0]), 5, 40) := by kernel_rfl
theorem infF : (Try.prog.info? 1).map (fun i => (i.zero, i.size, i.bytes)) = some (some .nilFunc, 1, 8) := by kernel_rfl
def In.cells (x : In) : List Value := [.int .i64 x.o, .int .i64 x.a, .int .i64 x.b, .int .i64 x.c, .int .i64 x.d]
def In.val (x : In) : Value := .agg #[.int .i64 x.o, .int .i64 x.a, .int .i64 x.b, .int .i64 x.c, .int .i64 x.d]
def ins (l : List In) : List Value := (l.map In.cells).flatten
theorem ins_append (l m : List In) : ins (l ++ m) = ins l ++ ins m := by simp [ins]
theorem ins_one : ∀ (l : List In), ∀ u ∈ ins l, u.oneCell' = true := by
 intro l u h
 simp only [ins, List.mem_flatten, List.mem_map] at h
 obtain ⟨_, ⟨x, _, rfl⟩, h⟩ := h
 simp [In.cells] at h
 rcases h with rfl | rfl | rfl | rfl | rfl <;> rfl
/-- the writer's four slices that grow -/
structure Wv where
 (c r l s : Value)
def Wv.in_ (v : Wv) (b k : Nat) : Prop := k = b ∨ v.c.ownBlock = some k ∨ v.r.ownBlock = some k ∨ v.l.ownBlock = some k ∨ v.s.ownBlock = some k
/-- an event's rows and their ends, in memory, below B -/
structure GEnv (W : World) (l : List Ac) (ad : Addr) (ge B : Nat) : Prop where
 src : Src W (some ad) l.length (acs l)
 en : Blk W ge 3 (ints (endsF l 0)).toArray
 b1 : ad.block < B
 b2 : ge < B
def gcells (l : List Ac) (ad : Addr) (ca ge : Nat) (v : Wv) : Array Value := #[.slice (some ad) l.length ca, .slice (some ⟨ge, 0, none⟩) l.length l.length, v.c, v.r, v.l, v.s]
/-- the writer in memory -/
structure Gw (W : World) (B b : Nat) (l : List Ac) (ad : Addr) (ca ge : Nat) (v : Wv) (cd : List In) (rw : List Int) (lt : List Value) (sn : Nat) : Prop where
 kk : Blk W b 119 (gcells l ad ca ge v)
 kb : B ≤ b
 kc : W.ownsRow B 56 5 v.c cd.length (ins cd)
 kr : W.ownsRow B 3 1 v.r rw.length (ints rw)
 kl : W.ownsRow B 1 1 v.l lt.length lt
 ks : ∃ st : List Int, W.ownsRow B 3 1 v.s sn (ints st)
 ka : ∀ k, v.r.ownBlock = some k → v.s.ownBlock ≠ some k
 ke : GEnv W l ad ge B
structure Wto (W W' : World) (b : Nat) (v v' : Wv) : Prop where
 o : Only (v.in_ b) W W'
 n : ∀ k, v'.in_ b k → v.in_ b k ∨ W.heap.size ≤ k
section
variable {W W' W'' : World} {B b : Nat} {l : List Ac} {ad : Addr} {ca ge : Nat} {v v' v'' : Wv} {cd : List In} {rw : List Int} {lt : List Value} {sn : Nat}
theorem Wto.refl (W : World) (b : Nat) (v : Wv) : Wto W W b v v := ⟨Only.refl _ _, fun _ h => .inl h⟩
theorem Wto.trans (h : Wto W W' b v v') (h2 : Wto W' W'' b v' v'') : Wto W W'' b v v'' :=
 ⟨h.o.trans2 h2.o h.n, fun k hk => by
   rcases h2.n k hk with h3 | h3
   · exact h.n k h3
   · have := h.o.size; exact .inr (by omega)⟩
theorem Gw.low (h : Gw W B b l ad ca ge v cd rw lt sn) : ∀ k, v.in_ b k → B ≤ k := by
 intro k hk
 rcases hk with rfl | hk | hk | hk | hk
 · exact h.kb
 · exact (h.kc.lt k hk).1
 · exact (h.kr.lt k hk).1
 · exact (h.kl.lt k hk).1
 · obtain ⟨st, hs⟩ := h.ks
   exact (hs.lt k hk).1
theorem Gw.high (h : Gw W B b l ad ca ge v cd rw lt sn) : ∀ k, v.in_ b k → k < W.heap.size := by
 intro k hk
 rcases hk with rfl | hk | hk | hk | hk
 · exact h.kk.lt
 · exact (h.kc.lt k hk).2
 · exact (h.kr.lt k hk).2
 · exact (h.kl.lt k hk).2
 · obtain ⟨st, hs⟩ := h.ks
   exact (hs.lt k hk).2
theorem Gw.size (h : Gw W B b l ad ca ge v cd rw lt sn) : B ≤ W.heap.size := by have := h.kb; have := h.kk.lt; omega
theorem Wto.below (h : Wto W W' b v v') (hg : Gw W B b l ad ca ge v cd rw lt sn) : Below B W W' := h.o.below hg.low hg.size
theorem GEnv.below (h : GEnv W l ad ge B) (hb : Below B W W') : GEnv W' l ad ge B := by
 refine ⟨fun h0 => ?_, h.en.below hb h.b2, h.b1, h.b2⟩
 obtain ⟨ad', e, hl, hx⟩ := h.src h0
 cases e
 exact ⟨ad, rfl, Nat.lt_of_lt_of_le hl hb.size, fun j u hj => (hb.cell (by rw [add_block]; exact h.b1)).trans (hx j u hj)⟩
/-- what has only grown, or has turned elsewhere, leaves the writer as it is -/
theorem Gw.only {S : Nat → Prop} (h : Gw W B b l ad ca ge v cd rw lt sn) (ho : Only S W W') (hS : ∀ k, v.in_ b k → ¬ S k) (hB : ∀ k, S k → B ≤ k) : Gw W' B b l ad ca ge v cd rw lt sn := by
 obtain ⟨st, hs⟩ := h.ks
 exact ⟨h.kk.only ho (hS b (.inl rfl)), h.kb, own_only h.kc ho (fun k hk => hS k (.inr (.inl hk))), own_only h.kr ho (fun k hk => hS k (.inr (.inr (.inl hk)))), own_only h.kl ho (fun k hk => hS k (.inr (.inr (.inr (.inl hk))))), ⟨st, own_only hs ho (fun k hk => hS k (.inr (.inr (.inr (.inr hk)))))⟩, h.ka, h.ke.below (ho.below hB h.size)⟩
theorem Gw.grow (h : Gw W B b l ad ca ge v cd rw lt sn) (hb : Below W.heap.size W W') : Gw W' B b l ad ca ge v cd rw lt sn :=
 h.only (S := fun _ => False) (Only.of_new hb) (fun _ _ => id) (fun _ => False.elim)
theorem Wto.grow (hb : Below W.heap.size W W') : Wto W W' b v v := ⟨Only.of_new hb, fun _ h => .inl h⟩
theorem own_own_ne {w : World} {B B' : Nat} {t t' : TypeId} {sz sz' n n' : Nat} {u u' : Value} {xs xs' : List Value} (h : w.ownsRow B t sz u n xs) (h' : w.ownsRow B' t' sz' u' n' xs') (ht : t ≠ t') : ∀ k, u.ownBlock = some k → u'.ownBlock ≠ some k := by
 intro k hk
 rcases h.2 with ⟨rfl, _⟩ | ⟨g, cap, cur, rfl, _, hh, _⟩
 · simp [Value.ownBlock] at hk
 · have : g = k := by simpa [Value.ownBlock] using hk
   subst this
   exact own_blk_ne h' hh (Ne.symm ht)
/-- an append to one of the rows, and its slice stored: what turns -/
theorem wto_app {u u' : Value} {w1 w2 : World} (i : Nat) (hv : ∀ k, u.ownBlock = some k → v.in_ b k) (h1 : Below W.heap.size W w1) (hg : w1.grownBy w2 u.ownBlock) (hat : u'.ownBlock = u.ownBlock ∨ ∃ k, u'.ownBlock = some k ∧ W.heap.size ≤ k) (hn : ∀ k, v'.in_ b k → u'.ownBlock = some k ∨ v.in_ b k) : Wto W (w2.setCell ⟨b, i, none⟩ u') b v v' :=
 ⟨((Only.of_new h1).grown hg (fun k hk => .inl (hv k hk))).setCell (.inl (.inl rfl)) u', fun k hk => by
   rcases hn k hk with h | h
   · rcases hat with e | ⟨k', e, hk'⟩
     · exact .inl (hv k (by rw [← e]; exact h))
     · rw [e] at h
       injection h with h
       subst h
       exact .inr hk'
   · exact .inl h⟩
theorem app_only {u u' : Value} {w1 w2 : World} {i : Nat} (h1 : Below W.heap.size W w1) (hg : w1.grownBy w2 u.ownBlock) : Only (fun k => u.ownBlock = some k ∨ k = b) W (w2.setCell ⟨b, i, none⟩ u') :=
 ((Only.of_new h1).grown hg (fun _ hk => .inl (.inl hk))).setCell (.inl (.inr rfl)) u'
theorem app_blk {u u' : Value} {w1 w2 : World} {i : Nat} {t : TypeId} {cs : Array Value} (hk : Blk W b t cs) (hu : u.ownBlock ≠ some b) (h1 : Below W.heap.size W w1) (hg : w1.grownBy w2 u.ownBlock) : Blk (w2.setCell ⟨b, i, none⟩ u') b t (cs.setIfInBounds i u') :=
 ((hk.below h1 hk.lt).grown hg (fun e => hu e.symm)).set_ i u'
theorem app_row {u' : Value} {w2 : World} {i : Nat} {t t' : TypeId} {sz n : Nat} {xs : List Value} {cs : Array Value} (h : w2.ownsRow B t sz u' n xs) (hb : Blk (w2.setCell ⟨b, i, none⟩ u') b t' cs) (hne : t ≠ t') : (w2.setCell ⟨b, i, none⟩ u').ownsRow B t sz u' n xs := by
 refine own_far h ?_ u'
 rcases h.2 with ⟨rfl, _⟩ | ⟨g, cap, cur, rfl, _, hh, _⟩
 · simp [Value.ownBlock]
 · intro he
   have he2 : g = b := by simpa [Value.ownBlock] using he
   subst he2
   unfold Blk at hb
   simp [World.setCell, Array.getElem?_modify, hh] at hb
   exact hne hb.2
theorem at_old {u u' : Value} {w1 : World} (h1 : Below W.heap.size W w1) (hat : u'.ownBlock = u.ownBlock ∨ u'.ownBlock = some w1.heap.size) : u'.ownBlock = u.ownBlock ∨ ∃ k, u'.ownBlock = some k ∧ W.heap.size ≤ k := by
 rcases hat with h | h
 · exact .inl h
 · exact .inr ⟨_, h, h1.size⟩
theorem at_ne {u u' u2 : Value} {w1 : World} (h1 : Below W.heap.size W w1) (hat : u'.ownBlock = u.ownBlock ∨ u'.ownBlock = some w1.heap.size) (h2 : ∀ k, u2.ownBlock = some k → k < W.heap.size) (hne : ∀ k, u.ownBlock = some k → u2.ownBlock ≠ some k) : ∀ k, u'.ownBlock = some k → u2.ownBlock ≠ some k := by
 intro k hk
 rcases hat with h | h
 · exact hne k (by rw [← h]; exact hk)
 · rw [h] at hk
   injection hk with hk
   subst hk
   intro h3
   have := h2 _ h3
   have := h1.size
   omega
/-- an instruction more -/
theorem Gw.app_c (h : Gw W B b l ad ca ge v cd rw lt sn) {x : In} {u' : Value} {w1 w2 : World} (h1 : Below W.heap.size W w1) (hown : w2.ownsRow B 56 5 u' (cd.length + 1) (ins cd ++ x.cells)) (hg : w1.grownBy w2 v.c.ownBlock) (hat : u'.ownBlock = v.c.ownBlock ∨ u'.ownBlock = some w1.heap.size) :
   Gw (w2.setCell ⟨b, 2, none⟩ u') B b l ad ca ge { v with c := u' } (cd ++ [x]) rw lt sn ∧ Wto W (w2.setCell ⟨b, 2, none⟩ u') b v { v with c := u' } := by
 obtain ⟨st, hs⟩ := h.ks
 have ho := app_only (b := b) (i := 2) (u' := u') h1 hg
 have hub := own_blk_ne h.kc h.kk (by decide)
 have hk := app_blk (i := 2) (u' := u') h.kk hub h1 hg
 have hB : ∀ k, (v.c.ownBlock = some k ∨ k = b) → B ≤ k := fun k hk => by
   rcases hk with hk | rfl
   · exact (h.kc.lt k hk).1
   · exact h.kb
 have hr := own_own_ne h.kr h.kc (by decide)
 have hl := own_own_ne h.kl h.kc (by decide)
 have hs2 := own_own_ne hs h.kc (by decide)
 have hrb := own_blk_ne h.kr h.kk (by decide)
 have hlb := own_blk_ne h.kl h.kk (by decide)
 have hsb := own_blk_ne hs h.kk (by decide)
 refine ⟨⟨hk, h.kb, ?_, own_only h.kr ho ?_, own_only h.kl ho ?_, ⟨st, own_only hs ho ?_⟩, h.ka, h.ke.below (ho.below hB h.size)⟩, wto_app 2 (fun k hk => .inr (.inl hk)) h1 hg (at_old h1 hat) (fun k hk => ?_)⟩
 · have := app_row hown hk (by decide)
   rw [List.length_append, ins_append]
   simpa [ins] using this
 · rintro k hk2 (h3 | rfl)
   · exact hr k hk2 h3
   · exact hrb hk2
 · rintro k hk2 (h3 | rfl)
   · exact hl k hk2 h3
   · exact hlb hk2
 · rintro k hk2 (h3 | rfl)
   · exact hs2 k hk2 h3
   · exact hsb hk2
 · rcases hk with rfl | hk | hk | hk | hk
   · exact .inr (.inl rfl)
   · exact .inl hk
   · exact .inr (.inr (.inr (.inl hk)))
   · exact .inr (.inr (.inr (.inr (.inl hk))))
   · exact .inr (.inr (.inr (.inr (.inr hk))))
/-- a row's number more -/
theorem Gw.app_r (h : Gw W B b l ad ca ge v cd rw lt sn) {x : Int} {u' : Value} {w1 w2 : World} (h1 : Below W.heap.size W w1) (hown : w2.ownsRow B 3 1 u' (rw.length + 1) (ints rw ++ [.int .i64 x])) (hg : w1.grownBy w2 v.r.ownBlock) (hat : u'.ownBlock = v.r.ownBlock ∨ u'.ownBlock = some w1.heap.size) :
   Gw (w2.setCell ⟨b, 3, none⟩ u') B b l ad ca ge { v with r := u' } cd (rw ++ [x]) lt sn ∧ Wto W (w2.setCell ⟨b, 3, none⟩ u') b v { v with r := u' } := by
 obtain ⟨st, hs⟩ := h.ks
 have ho := app_only (b := b) (i := 3) (u' := u') h1 hg
 have hub := own_blk_ne h.kr h.kk (by decide)
 have hk := app_blk (i := 3) (u' := u') h.kk hub h1 hg
 have hB : ∀ k, (v.r.ownBlock = some k ∨ k = b) → B ≤ k := fun k hk => by
   rcases hk with hk | rfl
   · exact (h.kr.lt k hk).1
   · exact h.kb
 have hr := own_own_ne h.kc h.kr (by decide)
 have hl := own_own_ne h.kl h.kr (by decide)
 have hrb := own_blk_ne h.kc h.kk (by decide)
 have hlb := own_blk_ne h.kl h.kk (by decide)
 have hsb := own_blk_ne hs h.kk (by decide)
 refine ⟨⟨hk, h.kb, own_only h.kc ho ?_, ?_, own_only h.kl ho ?_, ⟨st, own_only hs ho ?_⟩, at_ne h1 hat (fun k hk => (hs.lt k hk).2) h.ka, h.ke.below (ho.below hB h.size)⟩, wto_app 3 (fun k hk => .inr (.inr (.inl hk))) h1 hg (at_old h1 hat) (fun k hk => ?_)⟩
 · rintro k hk2 (h3 | rfl)
   · exact hr k hk2 h3
   · exact hrb hk2
 · have := app_row hown hk (by decide)
   rw [List.length_append]
   simpa [ints] using this
 · rintro k hk2 (h3 | rfl)
   · exact hl k hk2 h3
   · exact hlb hk2
 · rintro k hk2 (h3 | rfl)
   · exact h.ka k h3 hk2
   · exact hsb hk2
 · rcases hk with rfl | hk | hk | hk | hk
   · exact .inr (.inl rfl)
   · exact .inr (.inr (.inl hk))
   · exact .inl hk
   · exact .inr (.inr (.inr (.inr (.inl hk))))
   · exact .inr (.inr (.inr (.inr (.inr hk))))
/-- a state more -/
theorem Gw.app_s (h : Gw W B b l ad ca ge v cd rw lt sn) {st : List Int} {x : Int} {u' : Value} {w1 w2 : World} (h1 : Below W.heap.size W w1) (hown : w2.ownsRow B 3 1 u' (sn + 1) (ints st ++ [.int .i64 x])) (hg : w1.grownBy w2 v.s.ownBlock) (hat : u'.ownBlock = v.s.ownBlock ∨ u'.ownBlock = some w1.heap.size) :
   Gw (w2.setCell ⟨b, 5, none⟩ u') B b l ad ca ge { v with s := u' } cd rw lt (sn + 1) ∧ Wto W (w2.setCell ⟨b, 5, none⟩ u') b v { v with s := u' } := by
 obtain ⟨st0, hs⟩ := h.ks
 have ho := app_only (b := b) (i := 5) (u' := u') h1 hg
 have hub := own_blk_ne hs h.kk (by decide)
 have hk := app_blk (i := 5) (u' := u') h.kk hub h1 hg
 have hB : ∀ k, (v.s.ownBlock = some k ∨ k = b) → B ≤ k := fun k hk => by
   rcases hk with hk | rfl
   · exact (hs.lt k hk).1
   · exact h.kb
 have hr := own_own_ne h.kc hs (by decide)
 have hl := own_own_ne h.kl hs (by decide)
 have hrb := own_blk_ne h.kc h.kk (by decide)
 have hlb := own_blk_ne h.kl h.kk (by decide)
 have hsb := own_blk_ne h.kr h.kk (by decide)
 have hka : ∀ k, v.s.ownBlock = some k → v.r.ownBlock ≠ some k := fun k h1 h2 => h.ka k h2 h1
 refine ⟨⟨hk, h.kb, own_only h.kc ho ?_, own_only h.kr ho ?_, own_only h.kl ho ?_, ⟨st ++ [x], ?_⟩, fun k h4 h5 => at_ne h1 hat (fun k hk => (h.kr.lt k hk).2) hka k h5 h4, h.ke.below (ho.below hB h.size)⟩, wto_app 5 (fun k hk => .inr (.inr (.inr (.inr hk)))) h1 hg (at_old h1 hat) (fun k hk => ?_)⟩
 · rintro k hk2 (h3 | rfl)
   · exact hr k hk2 h3
   · exact hrb hk2
 · rintro k hk2 (h3 | rfl)
   · exact hka k h3 hk2
   · exact hsb hk2
 · rintro k hk2 (h3 | rfl)
   · exact hl k hk2 h3
   · exact hlb hk2
 · have := app_row hown hk (by decide)
   simpa [ints] using this
 · rcases hk with rfl | hk | hk | hk | hk
   · exact .inr (.inl rfl)
   · exact .inr (.inr (.inl hk))
   · exact .inr (.inr (.inr (.inl hk)))
   · exact .inr (.inr (.inr (.inr (.inl hk))))
   · exact .inl hk
/-- a place that is not known yet, more -/
theorem Gw.app_l (h : Gw W B b l ad ca ge v cd rw lt sn) {x : Value} {u' : Value} {w1 w2 : World} (h1 : Below W.heap.size W w1) (hown : w2.ownsRow B 1 1 u' (lt.length + 1) (lt ++ [x])) (hg : w1.grownBy w2 v.l.ownBlock) (hat : u'.ownBlock = v.l.ownBlock ∨ u'.ownBlock = some w1.heap.size) :
   Gw (w2.setCell ⟨b, 4, none⟩ u') B b l ad ca ge { v with l := u' } cd rw (lt ++ [x]) sn ∧ Wto W (w2.setCell ⟨b, 4, none⟩ u') b v { v with l := u' } := by
 obtain ⟨st, hs⟩ := h.ks
 have ho := app_only (b := b) (i := 4) (u' := u') h1 hg
 have hub := own_blk_ne h.kl h.kk (by decide)
 have hk := app_blk (i := 4) (u' := u') h.kk hub h1 hg
 have hB : ∀ k, (v.l.ownBlock = some k ∨ k = b) → B ≤ k := fun k hk => by
   rcases hk with hk | rfl
   · exact (h.kl.lt k hk).1
   · exact h.kb
 have hr := own_own_ne h.kr h.kl (by decide)
 have hl := own_own_ne h.kc h.kl (by decide)
 have hs2 := own_own_ne hs h.kl (by decide)
 have hrb := own_blk_ne h.kr h.kk (by decide)
 have hlb := own_blk_ne h.kc h.kk (by decide)
 have hsb := own_blk_ne hs h.kk (by decide)
 refine ⟨⟨hk, h.kb, own_only h.kc ho ?_, own_only h.kr ho ?_, ?_, ⟨st, own_only hs ho ?_⟩, h.ka, h.ke.below (ho.below hB h.size)⟩, wto_app 4 (fun k hk => .inr (.inr (.inr (.inl hk)))) h1 hg (at_old h1 hat) (fun k hk => ?_)⟩
 · rintro k hk2 (h3 | rfl)
   · exact hl k hk2 h3
   · exact hlb hk2
 · rintro k hk2 (h3 | rfl)
   · exact hr k hk2 h3
   · exact hrb hk2
 · have := app_row hown hk (by decide)
   simpa using this
 · rintro k hk2 (h3 | rfl)
   · exact hs2 k hk2 h3
   · exact hsb hk2
 · rcases hk with rfl | hk | hk | hk | hk
   · exact .inr (.inl rfl)
   · exact .inr (.inr (.inl hk))
   · exact .inr (.inr (.inr (.inl hk)))
   · exact .inl hk
   · exact .inr (.inr (.inr (.inr (.inr hk))))
end
end Go.Proofs.Ytdpokdcendgfeaa
namespace Go.Proofs.Ytdpokdcendgfeaa
open Go.RowKit
theorem step_append_own_at {P : Program} {ops : Array Oper} {o : Oper} {a : Act} {w : World} {K : Act → World → Prop} {Q : Exit → Act → World → Prop} {E : Prop}
   (hg : o.guard = none) (s x : Operand) (t : TypeId) (hop : o.op = Op.call { callee := Callee.builtin Builtin.append, args := #[s, x], argTypes := #[t, t] })
   (base : Nat) (e : TypeId) (i : TypeInfo) (z : Value) (size bytes : Nat) (h1 : P.underlying t = some (.slice e)) (h2 : P.info? e = some i) (h3 : i.zero = some z) (h4 : i.size = size) (h5 : i.bytes = bytes) (h6 : z.cells.size = size) (h7 : 0 < size)
   (v : Value) (n : Nat) (xs : List Value) (hs : a.eval s = v) (hown : w.ownsRow base e size v n xs)
   (ad : Addr) (m c : Nat) (news : List Value) (hx : a.eval x = .slice (some ad) m c) (hn : news.length = m * size) (hc : ∀ j u, news[j]? = some u → w.cell? (ad.add j) = some u) (h1c : ∀ u ∈ news, u.oneCell' = true)
   (b1 : n + m ≤ maxLen) (b2 : (n + m) * bytes ≤ 140737488355328) (hb : base ≤ w.heap.size)
   (hK : ∀ v' w', w'.ownsRow base e size v' (n + m) (xs ++ news) → w.grownBy w' v.ownBlock → (v'.ownBlock = v.ownBlock ∨ v'.ownBlock = some w.heap.size) → K (a.put o.dst v') w') :
   if Region.wanted o (yielded ops a.tmps) = true then Oper.wp P o a w K Q else E := by
 have hw : Region.wanted o (yielded ops a.tmps) = true := by simp [Region.wanted, hg]
 rw [if_pos hw]
 obtain ⟨v', w', hrun, r1, r2, _, r4⟩ := run_append_own_at (P := P) w base t o.type e i z size bytes h1 h2 h3 h4 h5 h6 h7 v n xs hown ad m c news hn hc h1c b1 b2 hb
 unfold Oper.wp
 simp [execOp, hop, resolve, invoke, builtin, hs, hx, hrun, Result.andThen]
 exact hK v' w' r1 r2 r4
theorem cells_at (w : World) (t : TypeId) (xs : List Value) : ∀ j u, xs[j]? = some u → (w.alloc (.cells xs.toArray t)).cell? ((⟨w.heap.size, 0, none⟩ : Addr).add j) = some u := by
 intro j u hj
 have hadd : (⟨w.heap.size, 0, none⟩ : Addr).add j = ⟨w.heap.size, j, none⟩ := by unfold Addr.add; split <;> simp_all
 rw [hadd, (Blk.new w t xs.toArray).cell]
 simpa using hj
theorem gw_cells {W : World} {B b : Nat} {l : List Ac} {ad : Addr} {ca ge : Nat} {v : Wv} {cd : List In} {rw : List Int} {lt : List Value} {sn : Nat} (h : Gw W B b l ad ca ge v cd rw lt sn) :
   W.cell? ⟨b, 0, none⟩ = some (.slice (some ad) l.length ca) ∧ W.cell? ⟨b, 1, none⟩ = some (.slice (some ⟨ge, 0, none⟩) l.length l.length) ∧ W.cell? ⟨b, 2, none⟩ = some v.c ∧ W.cell? ⟨b, 3, none⟩ = some v.r ∧ W.cell? ⟨b, 4, none⟩ = some v.l ∧ W.cell? ⟨b, 5, none⟩ = some v.s ∧
   W.frozen? ⟨b, 2, none⟩ = false ∧ W.frozen? ⟨b, 3, none⟩ = false ∧ W.frozen? ⟨b, 4, none⟩ = false ∧ W.frozen? ⟨b, 5, none⟩ = false :=
 ⟨by rw [h.kk.cell]; rfl, by rw [h.kk.cell]; rfl, by rw [h.kk.cell]; rfl, by rw [h.kk.cell]; rfl, by rw [h.kk.cell]; rfl, by rw [h.kk.cell]; rfl, h.kk.frozen 2, h.kk.frozen 3, h.kk.frozen 4, h.kk.frozen 5⟩
/-- a row's slice: its length -/
theorem own_slice {w : World} {B : Nat} {t : TypeId} {sz n : Nat} {u : Value} {xs : List Value} (h : w.ownsRow B t sz u n xs) : ∃ oa c, u = .slice oa n c := by
 rcases h.2 with ⟨rfl, h0⟩ | ⟨g, cap, cur, rfl, _⟩
 · exact ⟨none, 0, by rw [h0]⟩
 · exact ⟨_, _, rfl⟩
section
variable {W : World} {B b : Nat} {l : List Ac} {ad : Addr} {ca ge : Nat} {v : Wv} {cd : List In} {rw : List Int} {lt : List Value} {sn : Nat}
set_option maxRecDepth 100000 in
theorem here_i (h : Gw W B b l ad ca ge v cd rw lt sn) : Calls Try.prog 153 #[.pointer (some ⟨b, 0, none⟩)] W fun en w' => en = .returned (.int .i64 (cd.length : Int)) ∧ w' = W := by
 obtain ⟨q0, q1, q2, q3, q4, q5, _⟩ := gw_cells h
 obtain ⟨oa, c, e⟩ := own_slice h.kc
 rw [e] at q2
 clear h e q0 q1 q3 q4 q5
 go_enter Try.func153, Try.ntmps153
 go_wp2_with fail
 go_ret
 exact ⟨rfl, rfl⟩
set_option maxRecDepth 100000 in
theorem kidsG_i (h : Gw W B b l ad ca ge v cd rw lt sn) (i : Nat) (x : Ac) (sp : List (Nat × Nat)) (hx : l[i]? = some x) (hk : kidsS l x.n.toNat (i + 1) = some sp) (hx0 : 0 ≤ x.n) (hx1 : x.n ≤ (l.length : Int)) (hl : l.length ≤ 262144) :
   Calls Try.prog 151 #[.pointer (some ⟨b, 0, none⟩), .int .i64 (i : Int)] W fun en w' => ∃ u, en = .returned u ∧ w'.ownsRow W.heap.size 3 1 u sp.length (ints (sp.map fun r => (r.1 : Int))) ∧ Below W.heap.size W w' := by
 obtain ⟨q0, q1, q2, q3, q4, q5, _⟩ := gw_cells h
 obtain ⟨ad', e', hab, _, _, _, _, _, p5⟩ := acs_row h.ke.src hx
 cases e'
 obtain ⟨N, hN⟩ : ∃ N : Nat, x.n = (N : Int) := ⟨x.n.toNat, by omega⟩
 rw [hN] at p5 hk
 simp only [Int.toNat_natCast] at hk
 have hi := (List.getElem?_eq_some_iff.1 hx).1
 have hI0 : (0 : Int) ≤ (i : Int) := by omega
 have hI1 : (i : Int) < (l.length : Int) := by omega
 have u1 := IntWalk.i64_in ((i : Int) + 1) (by omega)
 obtain ⟨i3, hi3, hz0, hz1, hz2⟩ := info_parts3 infI
 have HG := hide h
 have HK := hide hk
 have HO0 := hide (World.ownsRow_nil W W.heap.size 3 1)
 have hN1 : N ≤ l.length := by omega
 clear h hk hx hab hN hx0 hx1 q2 q3 q4 q5
 go_enter Try.func151, Try.ntmps151
 go_wp2_with fail
 go_loopw [5, 6, 17] (fun t5 t6 t17 w2 => ∃ (j k : Nat) (ds rest : List (Nat × Nat)), t6 = .int .i64 (k : Int) ∧ t17 = .int .i64 (j : Int) ∧ j ≤ N ∧ k ≤ l.length ∧ w2.ownsRow W.heap.size 3 1 t5 ds.length (ints (ds.map fun r => (r.1 : Int))) ∧ kidsS l (N - j) k = some rest ∧ sp = ds ++ rest ∧ ds.length = j ∧ Below W.heap.size W w2) (fun _ _ t17 _ => N - (intOf t17).toNat)
 case atStart => exact ⟨0, i + 1, [], sp, by go_num, rfl, Nat.zero_le _, by omega, by simpa [ints] using HO0.out, HK.out, rfl, rfl, Below.refl _ _⟩
 case round =>
   clear q0 q1 p5
   obtain ⟨j, k, ds, rest, rfl, rfl, hj, hkl, hown, hks, hsp, hds, hb⟩ := hrel
   rename World => W2
   have HOWN := hide hown
   have HB := hide hb
   have hq2 := IntWalk.i64_in ((j : Int) + 1) (by omega)
   by_cases hjn : j < N
   · have hjI : (j : Int) < (N : Int) := by omega
     obtain ⟨m, hm⟩ : ∃ m, N - j = m + 1 := ⟨N - j - 1, by omega⟩
     rw [hm] at hks
     simp only [kidsS] at hks
     cases he : endS l k 1 with
     | none => simp [he] at hks
     | some e =>
       simp only [he] at hks
       cases hr : kidsS l m e with
       | none => simp [hr] at hks
       | some r2 =>
         simp only [hr, Option.map_some, Option.some.injEq] at hks
         have hle := endS_le l _ k 1 e rfl he hkl
         have HR := hide (show kidsS l (N - (j + 1)) e = some r2 by rw [show N - (j + 1) = m by omega]; exact hr)
         have HSP := hide (show sp = (ds ++ [(k, e)]) ++ r2 by rw [hsp, ← hks]; simp)
         obtain ⟨l1, l2, l3⟩ := hle
         have l3' := l3 (by omega)
         have hk0 : (0 : Int) ≤ (k : Int) := by omega
         have hk1 : (k : Int) < (l.length : Int) := by omega
         have HGE := hide (endsF_get (m := 0) (Nat.zero_le k) (by omega) he)
         have HOA := hide (own_keep (w' := W2.alloc (.cells #[.int .i64 (k : Int)] 3)) HOWN.out (fun g hg => Below.heap_alloc _ _ g (HOWN.out.lt g hg).2))
         have HTW := hide (cells_at W2 3 [.int .i64 (k : Int)])
         have hds9 : ds.length ≤ 262144 := by omega
         clear hown hks hsp hb he hr l3
         go_wp2_with (at_builtin; refine wpList_append_own_at _ rfl (.tmp 19) (.tmp 21) 24 rfl W.heap.size 3 i3 _ 1 8 Try.underlying24 hi3 hz0 hz1 hz2 rfl (by decide) u5 ds.length (ints (ds.map fun r => (r.1 : Int))) rfl HOA.out ⟨W2.heap.size, 0, none⟩ 1 1 [.int .i64 (k : Int)] rfl rfl HTW.out (by simp [Value.oneCell']) (by unfold maxLen; omega) (by omega) (by have := HB.out.size; simp; omega) ?_; rintro v3 w3 hown3 hgr3 hnil3 hat3; clear hnil3 hat3; have HO3 := hide hown3; have HB3 := hide ((HB.out.alloc HB.out.size _).trans (below_grow hgr3 (fun g hg => (HOWN.out.lt g hg).1) (by have := HB.out.size; simp; omega))); have HG3 := hide (HG.out.grow HB3.out); obtain ⟨x0, x1, x9⟩ := gw_cells HG3.out; have x2 := blk_int HG3.out.ke.en HGE.out; clear hown3 hgr3 x9 x0)
         go_roundw
         case rel =>
           refine ⟨j + 1, e, ds ++ [(k, e)], r2, rfl, by go_num, by omega, l2, ?_, HR.out, HSP.out, by simp; omega, HB3.out⟩
           have := HO3.out
           simpa [ints] using this
         case measure =>
           simp only [intOf]
           omega
   · have hjn2 : j = N := by omega
     have hre : rest = [] := by rw [hjn2, Nat.sub_self] at hks; simpa [kidsS] using hks.symm
     have HF := hide (show W2.ownsRow W.heap.size 3 1 u5 sp.length (ints (sp.map fun r => (r.1 : Int))) by rw [hsp, hre, List.append_nil]; exact hown)
     have hjI : ¬ (j : Int) < (N : Int) := by omega
     clear hown hks hsp hb hre hjn2
     go_wp2_with fail
     go_ret
     exact ⟨_, rfl, HF.out, HB.out⟩
end
end Go.Proofs.Ytdpokdcendgfeaa
namespace Go.Proofs.Ytdpokdcendgfeaa
open Go.RowKit
section
variable {W : World} {B b : Nat} {l : List Ac} {ad : Addr} {ca ge : Nat} {v : Wv} {cd : List In} {rw : List Int} {lt : List Value} {sn : Nat}
set_option maxRecDepth 100000 in
theorem say_i (h : Gw W B b l ad ca ge v cd rw lt sn) (row : Int) (x : In) (hc : cd.length ≤ 4194304) (hr : rw.length ≤ 4194304) (hs : sn ≤ 4194304) :
   Calls Try.prog 111 #[.pointer (some ⟨b, 0, none⟩), .int .i64 row, x.val] W fun en w' => en = .returned (.int .i64 (cd.length : Int)) ∧ ∃ v', Gw w' B b l ad ca ge v' (cd ++ [x]) (rw ++ [row]) lt (sn + 1) ∧ v'.l = v.l ∧ Wto W w' b v v' := by
 have HB := hide ((Below.refl W.heap.size W).alloc (Nat.le_refl _) (.cells #[.int .i64 x.o, .int .i64 x.a, .int .i64 x.b, .int .i64 x.c, .int .i64 x.d] 56))
 have HG := hide (h.grow HB.out)
 obtain ⟨q0, q1, q2, q3, q4, q5, f2, f3, f4, f5⟩ := gw_cells HG.out
 obtain ⟨i3, hi3, hz0, hz1, hz2⟩ := info_parts3 infR
 obtain ⟨i4, hi4, hy0, hy1, hy2⟩ := info_parts3 infI
 have HX := hide (Blk.new W 56 #[.int .i64 x.o, .int .i64 x.a, .int .i64 x.b, .int .i64 x.c, .int .i64 x.d])
 have HG0 := hide h
 have hbl := h.kk.lt
 clear h q0 q1 q3 q4 q5 f3 f4 f5
 go_enter Try.func111, Try.ntmps111
 simp only [In.val]
 go_upto_region 1 with fail
 generalize W.alloc (.cells #[.int .i64 x.o, .int .i64 x.a, .int .i64 x.b, .int .i64 x.c, .int .i64 x.d] 56) = W1 at HB HG q2 f2 HX
 have hbx : W.heap.size < W1.heap.size := HX.out.lt
 have x0 : W1.cell? ⟨W.heap.size, 0, none⟩ = some (.int .i64 x.o) := by rw [HX.out.cell]; rfl
 have x1 : W1.cell? ⟨W.heap.size, 1, none⟩ = some (.int .i64 x.a) := by rw [HX.out.cell]; rfl
 have x2 : W1.cell? ⟨W.heap.size, 2, none⟩ = some (.int .i64 x.b) := by rw [HX.out.cell]; rfl
 have x3 : W1.cell? ⟨W.heap.size, 3, none⟩ = some (.int .i64 x.c) := by rw [HX.out.cell]; rfl
 have x4 : W1.cell? ⟨W.heap.size, 4, none⟩ = some (.int .i64 x.d) := by rw [HX.out.cell]; rfl
 have pa2 : ∀ o, (W1.alloc o).cell? ⟨b, 2, none⟩ = some v.c := fun o => (World.cell?_alloc_lt W1 o _ (show b < W1.heap.size by omega)).trans q2
 go_cut [6] from 7 to 16 (fun s6 wx => s6 = .int .i64 0 ∧ ∃ u', Gw wx B b l ad ca ge { v with c := u' } (cd ++ [x]) rw lt sn ∧ Wto W wx b v { v with c := u' })
 case first =>
   go_region_law (refine step_append_own_at rfl (.tmp 11) (.tmp 13) 32 rfl B 56 i3 _ 5 40 Try.underlying32 hi3 hz0 hz1 hz2 rfl (by decide) v.c cd.length (ins cd) rfl (own_keep HG.out.kc (fun k hk => Below.heap_alloc _ _ k (HG.out.kc.lt k hk).2)) ⟨_, 0, none⟩ 1 1 x.cells rfl rfl (cells_at W1.drew 56 x.cells) (fun u hu => ins_one [x] u (by simpa [ins] using hu)) (by unfold maxLen; omega) (by omega) (by have := HG.out.size; simp; omega) ?_
                  intro u' w5 hown5 hgr5 hat5
                  have HK5 := hide ((HG0.out.kk.below ((HB.out.drew).alloc HB.out.size _) hbl).grown hgr5 (fun e => own_blk_ne HG0.out.kc HG0.out.kk (by decide) e.symm))
                  have c5 : w5.cell? ⟨b, 2, none⟩ = some v.c := by rw [HK5.out.cell]; rfl
                  have f5 := HK5.out.frozen 2
                  have HC := hide (HG0.out.app_c ((HB.out.drew).alloc HB.out.size _) hown5 hgr5 hat5)
                  obtain ⟨oa5, cp5, rfl⟩ := own_slice hown5
                  clear hown5 hgr5 hat5)
   all_goals
     go_wp2_with fail
     go_meet
     case rel => exact ⟨rfl, _, HC.out⟩
 case rest =>
   obtain ⟨rfl, u', hg1, ht1⟩ := hcut
   obtain ⟨oa1, cp1, rfl⟩ := own_slice hg1.kc
   have HG1 := hide hg1
   have HT1 := hide ht1
   obtain ⟨_, _, _, q3, _, _, _, f3, _, _⟩ := gw_cells hg1
   have hb1 := hg1.kk.lt
   have pa3 : ∀ o, (wc.alloc o).cell? ⟨b, 3, none⟩ = some v.r := fun o => (World.cell?_alloc_lt wc o _ (show b < wc.heap.size by omega)).trans q3
   clear hg1 ht1 HB HG HX x0 x1 x2 x3 x4 q2 f2 pa2
   go_wp2_with (first
     | (at_builtin
        refine wpList_append_own_at _ rfl (.tmp 21) (.tmp 23) 24 rfl B 3 i4 _ 1 8 Try.underlying24 hi4 hy0 hy1 hy2 rfl (by decide) v.r rw.length (ints rw) rfl (own_keep (w' := wc.alloc (.cells #[.int .i64 row] 3)) HG1.out.kr (fun k hk => Below.heap_alloc _ _ k (HG1.out.kr.lt k hk).2)) ⟨wc.heap.size, 0, none⟩ 1 1 [.int .i64 row] rfl rfl (cells_at wc 3 [.int .i64 row]) (by simp [Value.oneCell']) (by unfold maxLen; omega) (by omega) (by have := HG1.out.size; simp; omega) ?_
        intro u6 w6 hown6 hgr6 _ hat6
        have HK6 := hide ((HG1.out.kk.below ((Below.refl _ wc).alloc (Nat.le_refl _) (.cells #[.int .i64 row] 3)) hb1).grown hgr6 (fun e => own_blk_ne HG1.out.kr HG1.out.kk (by decide) e.symm))
        have c6 : w6.cell? ⟨b, 3, none⟩ = some v.r := by rw [HK6.out.cell]; rfl
        have f6 := HK6.out.frozen 3
        have HC := hide (HG1.out.app_r ((Below.refl _ wc).alloc (Nat.le_refl _) (.cells #[.int .i64 row] 3)) hown6 hgr6 hat6)
        obtain ⟨oa6, cp6, rfl⟩ := own_slice hown6
        have HC1 := hide HC.out.1
        have HC2 := hide (HT1.out.trans HC.out.2)
        have z5 : (w6.setCell ⟨b, 3, none⟩ _).cell? ⟨b, 5, none⟩ = some v.s := (gw_cells HC1.out).2.2.2.2.2.1
        obtain ⟨st6, hs6⟩ := HC1.out.ks
        have HS6 := hide hs6
        have pz5 : ∀ o, (World.alloc (w6.setCell ⟨b, 3, none⟩ (.slice oa6 (rw.length + 1) cp6)) o).cell? ⟨b, 5, none⟩ = some v.s := fun o => (World.cell?_alloc_lt _ o _ HC1.out.kk.lt).trans z5
        clear hown6 hgr6 hat6 hs6 HC)
     | (at_builtin
        go_loud (
        refine wpList_append_own_at _ rfl (.tmp 31) (.tmp 32) 24 rfl B 3 i4 _ 1 8 Try.underlying24 hi4 hy0 hy1 hy2 rfl (by decide) v.s sn (ints st6) rfl (own_keep (w' := World.alloc (w6.setCell ⟨b, 3, none⟩ (.slice oa6 (rw.length + 1) cp6)) (.cells #[.int .i64 1] 3)) HS6.out (fun k hk => Below.heap_alloc _ _ k (HS6.out.lt k hk).2)) ⟨_, 0, none⟩ 1 1 [.int .i64 1] rfl rfl (by have := cells_at (w6.setCell ⟨b, 3, none⟩ (.slice oa6 (rw.length + 1) cp6)) 3 [.int .i64 1]; simpa using this) (by simp [Value.oneCell']) (by unfold maxLen; omega) (by omega) (by have := HC1.out.size; simp at this ⊢; omega) ?_
        intro u7 w7 hown7 hgr7 _ hat7
        have HK7 := hide ((HC1.out.kk.below ((Below.refl _ _).alloc (Nat.le_refl _) (.cells #[.int .i64 1] 3)) HC1.out.kk.lt).grown hgr7 (fun e => own_blk_ne HS6.out HC1.out.kk (by decide) e.symm))
        have c7 : w7.cell? ⟨b, 5, none⟩ = some v.s := by rw [HK7.out.cell]; rfl
        have f7 := HK7.out.frozen 5
        have HC7 := hide (HC1.out.app_s ((Below.refl _ _).alloc (Nat.le_refl _) (.cells #[.int .i64 1] 3)) hown7 hgr7 hat7)
        obtain ⟨oa7, cp7, rfl⟩ := own_slice hown7
        have HC8 := hide HC7.out.1
        have HC9 := hide (HC2.out.trans HC7.out.2)
        have z2 : (w7.setCell ⟨b, 5, none⟩ _).cell? ⟨b, 2, none⟩ = some (.slice oa1 (cd ++ [x]).length cp1) := (gw_cells HC8.out).2.2.1
        rw [List.length_append] at z2
        clear hown7 hgr7 hat7)))
   go_ret
   exact ⟨by simp, _, HC8.out, rfl, HC9.out⟩
end
end Go.Proofs.Ytdpokdcendgfeaa
namespace Go.Proofs.Ytdpokdcendgfeaa
open Go.RowKit
/-- a closure that lays a place: the code's place p, the variable pc that will hold where it goes; its own variables lie from lo on -/
def Clo2 (W : World) (b : Nat) (fp : Nat → Prop) (lo : Nat) (x : Value) (p : Nat) (pc : Addr) : Prop :=
 ∃ qb wb ab, x = .func (.func 181) #[] #[.pointer (some ⟨qb, 0, none⟩), .pointer (some ⟨wb, 0, none⟩), .pointer (some ⟨ab, 0, none⟩)] ∧
   W.cell? ⟨qb, 0, none⟩ = some (.pointer (some pc)) ∧ W.cell? ⟨wb, 0, none⟩ = some (.pointer (some ⟨b, 0, none⟩)) ∧ W.cell? ⟨ab, 0, none⟩ = some (.int .i64 (p : Int)) ∧
   (¬ fp qb ∧ ¬ fp wb ∧ ¬ fp ab) ∧ (qb < W.heap.size ∧ wb < W.heap.size ∧ ab < W.heap.size) ∧ lo ≤ qb ∧ lo ≤ wb ∧ lo ≤ ab
section
variable {W : World} {B b : Nat} {l : List Ac} {ad : Addr} {ca ge : Nat} {v : Wv} {cd : List In} {rw : List Int} {lt : List Value} {sn : Nat}
theorem Clo2.wto {W' : World} {v' : Wv} {lo : Nat} {x : Value} {p : Nat} {pc : Addr} (h : Clo2 W b (v.in_ b) lo x p pc) (ht : Wto W W' b v v') : Clo2 W' b (v'.in_ b) lo x p pc := by
 obtain ⟨qb, wb, ab, rfl, h1, h2, h3, ⟨n1, n2, n3⟩, ⟨l1, l2, l3⟩, hl⟩ := h
 have hs := ht.o.size
 have hnew : ∀ k, ¬ v.in_ b k → k < W.heap.size → ¬ v'.in_ b k := fun k h4 h5 h6 => by
   rcases ht.n k h6 with h7 | h7
   · exact h4 h7
   · omega
 exact ⟨qb, wb, ab, rfl, (ht.o.cell l1 n1).trans h1, (ht.o.cell l2 n2).trans h2, (ht.o.cell l3 n3).trans h3, ⟨hnew _ n1 l1, hnew _ n2 l2, hnew _ n3 l3⟩, ⟨by omega, by omega, by omega⟩, hl⟩
theorem Gw.drew (h : Gw W B b l ad ca ge v cd rw lt sn) : Gw W.drew B b l ad ca ge v cd rw lt sn := h.grow (Below.refl _ _).drew
theorem Wto.drew {W' : World} {v' : Wv} (h : Wto W W' b v v') : Wto W W'.drew b v v' := ⟨h.o.drew, h.n⟩
/-- a state written -/
theorem Gw.set_s (h : Gw W B b l ad ca ge v cd rw lt sn) {g n cap : Nat} (hv : v.s = .slice (some ⟨g, 0, none⟩) n cap) (j : Nat) (y : Int) : Gw (W.setCell ⟨g, j, none⟩ (.int .i64 y)) B b l ad ca ge v cd rw lt sn ∧ Wto W (W.setCell ⟨g, j, none⟩ (.int .i64 y)) b v v := by
 obtain ⟨st, hs⟩ := h.ks
 have hn : n = sn := by
   obtain ⟨oa, c, e⟩ := own_slice hs
   rw [hv] at e
   simp only [Value.slice.injEq] at e
   exact e.2.1
 subst hn
 have hs2 := hs
 rw [hv] at hs2
 obtain ⟨h3, _⟩ := World.ownsRow.stored hs2 j (.int .i64 y)
 have hin : v.s.ownBlock = some g := by rw [hv]; rfl
 have ho : Only (fun k => k = g) W (W.setCell ⟨g, j, none⟩ (.int .i64 y)) := (Only.refl (fun k => k = g) W).setCell (.inl rfl) _
 have hg := hs.lt g hin
 have hsb := own_blk_ne hs h.kk (by decide)
 have hc := own_own_ne h.kc hs (by decide)
 have hl := own_own_ne h.kl hs (by decide)
 refine ⟨⟨h.kk.only ho (fun e => by subst e; exact hsb hin), h.kb, own_only h.kc ho (fun k hk e => by subst e; exact hc _ hk hin), own_only h.kr ho (fun k hk e => by subst e; exact h.ka _ hk hin), own_only h.kl ho (fun k hk e => by subst e; exact hl _ hk hin), ⟨st.set j y, ?_⟩, h.ka, h.ke.below (ho.below (fun k hk => by subst hk; exact hg.1) h.size)⟩, ⟨ho.mono (fun k hk => .inl (by subst hk; exact .inr (.inr (.inr (.inr hin))))), fun _ hk => .inl hk⟩⟩
 rw [hv]
 have e : ints (st.set j y) = (ints st).set j (.int .i64 y) := by simp [ints, List.map_set]
 rw [e]
 exact h3
set_option maxRecDepth 100000 in
theorem jump_i (h : Gw W B b l ad ca ge v cd rw lt cd.length) (row op : Int) (pc : Addr) (hc : cd.length ≤ 4194303) (hr : rw.length ≤ 4194304) (hlt : lt.length ≤ 4194304) :
   Calls Try.prog 152 #[.pointer (some ⟨b, 0, none⟩), .int .i64 row, .int .i64 op, .pointer (some pc)] W fun en w' => en = .returned (.tuple #[]) ∧ ∃ v' x, Gw w' B b l ad ca ge v' (cd ++ [⟨op, 0, 0, 0, 0⟩]) (rw ++ [row]) (lt ++ [x]) (cd.length + 1) ∧ Wto W w' b v v' ∧ Clo2 w' b (v'.in_ b) W.heap.size x cd.length pc := by
 have hmf : ∀ (fn : Fn) (first cap : Array Value) (w : World), (Instr.makeFunc fn first cap).run Try.prog w = .ok (.func fn first cap) w := fun _ _ _ _ => rfl
 obtain ⟨i4, hi4, hy0, hy1, hy2⟩ := info_parts3 infF
 have HG0 := hide h
 clear h
 go_enter Try.func152, Try.ntmps152
 go_upto_region 1 with fail
 have HB2 := hide (((Below.refl W.heap.size W).alloc (Nat.le_refl _) (.cells #[.pointer (some ⟨b, 0, none⟩)] 115)).alloc (by simp) (.cells #[.pointer (some pc)] 190))
 have hw0 : ((W.alloc (.cells #[.pointer (some ⟨b, 0, none⟩)] 115)).alloc (.cells #[.pointer (some pc)] 190)).cell? ⟨W.heap.size, 0, none⟩ = some (.pointer (some ⟨b, 0, none⟩)) := ((Blk.new W _ _).alloc _).cell 0
 have hq0 : ((W.alloc (.cells #[.pointer (some ⟨b, 0, none⟩)] 115)).alloc (.cells #[.pointer (some pc)] 190)).cell? ⟨W.heap.size + 1, 0, none⟩ = some (.pointer (some pc)) := by
   have := (Blk.new (W.alloc (.cells #[.pointer (some ⟨b, 0, none⟩)] 115)) 190 #[.pointer (some pc)]).cell 0
   simp at this ⊢
 have hsz : ((W.alloc (.cells #[.pointer (some ⟨b, 0, none⟩)] 115)).alloc (.cells #[.pointer (some pc)] 190)).heap.size = W.heap.size + 2 := by simp
 generalize ((W.alloc (.cells #[.pointer (some ⟨b, 0, none⟩)] 115)).alloc (.cells #[.pointer (some pc)] 190)) = W2 at HB2 hw0 hq0 hsz
 have HG2 := hide (HG0.out.grow HB2.out)
 have HT2 := hide (Wto.grow (b := b) (v := v) HB2.out)
 have HSAY := hide (say_i HG2.out row ⟨op, 0, 0, 0, 0⟩ (by omega) hr (by omega))
 simp only [In.val] at HSAY
 go_upto_region 2 with (go_at_call 111
                        refine HSAY.out.mono ?_
                        rintro en w3 ⟨rfl, v1, hg3, -, ht3⟩
                        have HG3 := hide hg3
                        have HT3 := hide (HT2.out.trans ht3)
                        have HC3 := hide ((ht3.o.cell (p := ⟨W.heap.size, 0, none⟩) (show W.heap.size < W2.heap.size by omega) (fun h9 => by have h10 : W.heap.size < W.heap.size := HG0.out.high _ h9; omega)).trans hw0)
                        have HQ3 := hide ((ht3.o.cell (p := ⟨W.heap.size + 1, 0, none⟩) (show W.heap.size + 1 < W2.heap.size by omega) (fun h9 => by have h10 : W.heap.size + 1 < W.heap.size := HG0.out.high _ h9; omega)).trans hq0)
                        have hs3 := ht3.o.size
                        have HN3 := hide ht3.n
                        clear hg3 ht3 hw0 hq0)
 have hwl : W.heap.size < w3.heap.size := by omega
 have hql : W.heap.size + 1 < w3.heap.size := by omega
 have HB4 := hide ((Below.refl w3.heap.size w3).alloc (Nat.le_refl _) (.cells #[.int .i64 (cd.length : Int)] 3))
 have hw4 := HB4.out.cell (p := ⟨W.heap.size, 0, none⟩) hwl
 have hq4 := HB4.out.cell (p := ⟨W.heap.size + 1, 0, none⟩) hql
 rw [HC3.out] at hw4
 rw [HQ3.out] at hq4
 have ha4 := (Blk.new w3 3 #[.int .i64 (cd.length : Int)]).cell 0
 have hal := (Blk.new w3 3 #[.int .i64 (cd.length : Int)]).lt
 simp only [List.getElem?_toArray, List.getElem?_cons_zero] at ha4
 generalize w3.alloc (.cells #[.int .i64 (cd.length : Int)] 3) = W4 at HB4 hw4 hq4 ha4 hal
 have HG4 := hide (HG3.out.grow HB4.out)
 have HT4 := hide (HT3.out.trans (Wto.grow HB4.out))
 have HN4 := hide (show ¬ v1.in_ b W.heap.size ∧ ¬ v1.in_ b (W.heap.size + 1) ∧ ¬ v1.in_ b w3.heap.size from
   ⟨fun h9 => by
     rcases HN3.out _ h9 with h | h
     · have h10 : W.heap.size < W.heap.size := HG0.out.high _ h
       omega
     · omega, fun h9 => by
     rcases HN3.out _ h9 with h | h
     · have h10 : W.heap.size + 1 < W.heap.size := HG0.out.high _ h
       omega
     · omega, fun h9 => by
     have h10 : w3.heap.size < w3.heap.size := HG3.out.high _ h9
     omega⟩)
 obtain ⟨st, hs⟩ := HG4.out.ks
 obtain ⟨gs, cap, hvs, hcap, hcap2⟩ := own_form hs (by omega)
 have q5 := (gw_cells HG4.out).2.2.2.2.2.1
 rw [hvs] at q5
 have hs2 := hs
 rw [hvs] at hs2
 have cs5 := World.ownsRow.cellAt hs2 cd.length (by omega)
 have hsl : st.length = cd.length + 1 := by have := hs.1; simpa [ints] using this
 obtain ⟨sx, hsx⟩ : ∃ sx, st[cd.length]? = some sx := ⟨_, List.getElem?_eq_getElem (by omega)⟩
 rw [ints_get hsx] at cs5
 have fs5 := World.ownsRow.frozenAt hs2 cd.length
 have hi0 : (0 : Int) ≤ (cd.length : Int) := by omega
 have hi1 : (cd.length : Int) < (cd.length : Int) + 1 := by omega
 have hi2 : (cd.length : Int) < ((cd.length + 1 : Nat) : Int) := by omega
 have HS5 := hide (Gw.set_s HG4.out hvs cd.length 0)
 clear hs hs2 hsl hsx
 go_cut [8] from 14 to 19 (fun s8 wx => s8 = .pointer (some ⟨w3.heap.size, 0, none⟩) ∧ Gw wx B b l ad ca ge v1 (cd ++ [⟨op, 0, 0, 0, 0⟩]) (rw ++ [row]) lt (cd.length + 1) ∧ Wto W4 wx b v1 v1)
 case first =>
   go_region
   all_goals
     go_wp2_with fail
     go_meet
     case rel => exact ⟨rfl, HS5.out.1.drew, HS5.out.2.drew⟩
 case rest =>
   obtain ⟨rfl, hg6, ht6⟩ := hcut
   have HG6 := hide hg6
   have HT6 := hide (HT4.out.trans ht6)
   have hw6 := ht6.o.cell (p := ⟨W.heap.size, 0, none⟩) (show W.heap.size < W4.heap.size by omega) HN4.out.1
   have hq6 := ht6.o.cell (p := ⟨W.heap.size + 1, 0, none⟩) (show W.heap.size + 1 < W4.heap.size by omega) HN4.out.2.1
   have ha6 := ht6.o.cell (p := ⟨w3.heap.size, 0, none⟩) hal HN4.out.2.2
   rw [hw4] at hw6
   rw [hq4] at hq6
   rw [ha4] at ha6
   have hs6 := ht6.o.size
   obtain ⟨_, _, _, _, q4, _, _, _, f4, _⟩ := gw_cells hg6
   have hb6 := hg6.kk.lt
   have pw6 : ∀ o, (wc.alloc o).cell? ⟨W.heap.size, 0, none⟩ = _ := fun o => (World.cell?_alloc_lt wc o _ (show W.heap.size < wc.heap.size by omega)).trans hw6
   have pl6 : ∀ o, (wc.alloc o).cell? ⟨b, 4, none⟩ = _ := fun o => (World.cell?_alloc_lt wc o _ (show b < wc.heap.size by omega)).trans q4
   have HHW := hide hw6
   have HHQ := hide hq6
   have HHA := hide ha6
   clear hg6 ht6 hw4 hq4 ha4 HS5 q5 cs5 fs5 hq6 ha6
   go_upto_region 3 with fail
   go_region_law (refine step_append_own_at rfl (.tmp 24) (.tmp 26) 117 rfl B 1 i4 _ 1 8 Try.underlying117 hi4 hy0 hy1 hy2 rfl (by decide) v1.l lt.length lt rfl (own_keep HG6.out.kl (fun k hk => Below.heap_alloc _ _ k (HG6.out.kl.lt k hk).2)) ⟨_, 0, none⟩ 1 1 [.func (.func 181) #[] #[.pointer (some ⟨W.heap.size + 1, 0, none⟩), .pointer (some ⟨W.heap.size, 0, none⟩), .pointer (some ⟨w3.heap.size, 0, none⟩)]] rfl rfl (cells_at wc.drew 1 [.func (.func 181) #[] #[.pointer (some ⟨W.heap.size + 1, 0, none⟩), .pointer (some ⟨W.heap.size, 0, none⟩), .pointer (some ⟨w3.heap.size, 0, none⟩)]]) (by simp [Value.oneCell']) (by unfold maxLen; omega) (by omega) (by have := HG6.out.size; simp; omega) ?_
                  intro u' w5 hown5 hgr5 hat5
                  have HK5 := hide ((HG6.out.kk.below (((Below.refl _ wc).drew).alloc (Nat.le_refl _) _) hb6).grown hgr5 (fun e => own_blk_ne HG6.out.kl HG6.out.kk (by decide) e.symm))
                  have c5 : w5.cell? ⟨b, 4, none⟩ = some v1.l := by rw [HK5.out.cell]; rfl
                  have f5 := HK5.out.frozen 4
                  have cw5 : w5.cell? ⟨W.heap.size, 0, none⟩ = some (.pointer (some ⟨b, 0, none⟩)) := (World.cell?_of_block (hgr5.block W.heap.size (by simp; omega) (fun e => HN4.out.1 (.inr (.inr (.inr (.inl e.symm))))))).trans ((World.cell?_alloc_lt wc.drew _ _ (show W.heap.size < wc.heap.size by omega)).trans HHW.out)
                  have HC := hide (HG6.out.app_l (((Below.refl _ wc).drew).alloc (Nat.le_refl _) _) hown5 hgr5 hat5)
                  obtain ⟨oa5, cp5, rfl⟩ := own_slice hown5
                  clear hown5 hgr5 hat5)
   all_goals
     go_wp2_with fail
     go_end0
     refine ⟨rfl, _, _, HC.out.1, HT6.out.trans HC.out.2, ?_⟩
     refine Clo2.wto ⟨W.heap.size + 1, W.heap.size, w3.heap.size, rfl, HHQ.out, HHW.out, HHA.out, ⟨HN4.out.2.1, HN4.out.1, HN4.out.2.2⟩, ⟨by omega, by omega, by omega⟩, by omega, by omega, by omega⟩ HC.out.2
end
end Go.Proofs.Ytdpokdcendgfeaa
namespace Go.Proofs.Ytdpokdcendgfeaa
open Go.RowKit
section
variable {W : World} {B b : Nat} {l : List Ac} {ad : Addr} {ca ge : Nat} {v : Wv} {cd : List In} {rw : List Int} {lt : List Value}
set_option maxRecDepth 100000 in
theorem item_i (h : Gw W B b l ad ca ge v cd rw lt cd.length) (row : Nat) (y : Ac) (tag x e : Int) (hc : cd.length ≤ 4194303) (hr : rw.length ≤ 4194304) :
   Calls Try.prog 154 #[.pointer (some ⟨b, 0, none⟩), .int .i64 (row : Int), y.val, .int .i64 tag, .int .i64 x, .int .i64 e] W fun en w' => en = .returned (.tuple #[]) ∧ ∃ v', Gw w' B b l ad ca ge v' (cd ++ [(itemC row y tag x e).i]) (rw ++ [(row : Int)]) lt (cd.length + 1) ∧ Wto W w' b v v' := by
 have HG0 := hide h
 clear h
 simp only [Ac.val]
 have HB2 := hide ((Below.refl W.heap.size W).alloc (Nat.le_refl _) (.cells #[.int .i64 y.k, .int .i64 y.a, .int .i64 y.b, .int .i64 y.c, .int .i64 y.d, .int .i64 y.n] 49))
 have HG2 := hide (HG0.out.grow HB2.out)
 have HT2 := hide (Wto.grow (b := b) (v := v) HB2.out)
 have HSAY := fun i : In => hide (say_i HG2.out (row : Int) i (by omega) hr (by omega))
 by_cases hk : y.k = 17
 · have HE := hide (show (itemC row y tag x e).i = ⟨x, tag, 0, 0, 0⟩ by simp [itemC, hk, sayC])
   have HS1 := hide (HSAY ⟨x, tag, 0, 0, 0⟩).out
   simp only [In.val] at HS1
   have hkb : (y.k == 17) = true := by simp [hk]
   clear HSAY
   clear hk
   go_enter Try.func154, Try.ntmps154
   go_wp2_with (go_at_call 111; refine HS1.out.mono ?_; rintro en w3 ⟨rfl, v1, hg3, -, ht3⟩; have HG3 := hide hg3; have HT3 := hide (HT2.out.trans ht3); clear hg3 ht3)
   go_end0
   exact ⟨rfl, v1, by rw [HE.out]; exact HG3.out, HT3.out⟩
 · have HE := hide (show (itemC row y tag x e).i = ⟨e, y.a, y.b, tag, 0⟩ by simp [itemC, hk, sayC])
   have HS1 := hide (HSAY ⟨e, y.a, y.b, tag, 0⟩).out
   simp only [In.val] at HS1
   have hkb : (y.k == 17) = false := by simp [hk]
   clear HSAY
   clear hk
   go_enter Try.func154, Try.ntmps154
   go_wp2_with (go_at_call 111; refine HS1.out.mono ?_; rintro en w3 ⟨rfl, v1, hg3, -, ht3⟩; have HG3 := hide hg3; have HT3 := hide (HT2.out.trans ht3); clear hg3 ht3)
   go_end0
   exact ⟨rfl, v1, by rw [HE.out]; exact HG3.out, HT3.out⟩
end
end Go.Proofs.Ytdpokdcendgfeaa
namespace Go.Proofs.Ytdpokdcendgfeaa
open Go.RowKit
def cdI (m : List Cd) : List In := m.map Cd.i
def cdR (m : List Cd) : List Int := m.map fun x => (x.row : Int)
/-- the jumps of a piece of code -/
def jumpsC : Nat → List Cd → List (Nat × (Nat ⊕ Addr))
 | _, [] => []
 | c, x :: m => match x.to with
   | none => jumpsC (c + 1) m
   | some t => (c, .inl t) :: jumpsC (c + 1) m
theorem jumpsC_append : ∀ (m n : List Cd) (c : Nat), jumpsC c (m ++ n) = jumpsC c m ++ jumpsC (c + m.length) n
 | [], n, c => by simp [jumpsC]
 | x :: m, n, c => by
   have ih := jumpsC_append m n (c + 1)
   simp only [List.cons_append, jumpsC, List.length_cons]
   rw [show c + (m.length + 1) = c + 1 + m.length by omega]
   split <;> simp [ih]
theorem jumpsC_length : ∀ (m : List Cd) (c : Nat), (jumpsC c m).length ≤ m.length
 | [], c => by simp [jumpsC]
 | x :: m, c => by
   have ih := jumpsC_length m (c + 1)
   simp only [jumpsC, List.length_cons]
   split
   · omega
   · simp only [List.length_cons]; omega
def Ent (W : World) (b : Nat) (fp : Nat → Prop) (lo : Nat) (x : Value) (j : Nat × (Nat ⊕ Addr)) : Prop :=
 match j.2 with
 | .inr pc => Clo2 W b fp lo x j.1 pc
 | .inl t => ∃ pc, Clo2 W b fp lo x j.1 pc ∧ W.cell? pc = some (.int .i64 (t : Int)) ∧ ¬ fp pc.block ∧ lo ≤ pc.block ∧ pc.block < W.heap.size
def Bun (W : World) (b : Nat) (fp : Nat → Prop) (lo : Nat) : List Value → List (Nat × (Nat ⊕ Addr)) → Prop
 | [], [] => True
 | x :: xs, j :: js => Ent W b fp lo x j ∧ Bun W b fp lo xs js
 | _, _ => False
section
variable {W W' : World} {b lo lo' : Nat} {v v' : Wv} {fp : Nat → Prop}
theorem Ent.wto {x : Value} {j : Nat × (Nat ⊕ Addr)} (h : Ent W b (v.in_ b) lo x j) (ht : Wto W W' b v v') : Ent W' b (v'.in_ b) lo x j := by
 obtain ⟨p, t | pc⟩ := j
 · obtain ⟨pc, h1, h2, h3, h4, h5⟩ := h
   have hs := ht.o.size
   refine ⟨pc, h1.wto ht, (ht.o.cell h5 h3).trans h2, fun h6 => ?_, h4, by omega⟩
   rcases ht.n _ h6 with h7 | h7
   · exact h3 h7
   · omega
 · exact Clo2.wto h ht
theorem Bun.wto : ∀ {xs : List Value} {js : List (Nat × (Nat ⊕ Addr))}, Bun W b (v.in_ b) lo xs js → Wto W W' b v v' → Bun W' b (v'.in_ b) lo xs js
 | [], [], _, _ => trivial
 | x :: xs, j :: js, h, ht => ⟨h.1.wto ht, Bun.wto h.2 ht⟩
 | [], j :: js, h, _ => h.elim
 | x :: xs, [], h, _ => h.elim
theorem Clo2.down {x : Value} {p : Nat} {pc : Addr} (h : Clo2 W b fp lo x p pc) (hl : lo' ≤ lo) : Clo2 W b fp lo' x p pc := by
 obtain ⟨qb, wb, ab, rfl, h1, h2, h3, h4, h5, h6⟩ := h
 exact ⟨qb, wb, ab, rfl, h1, h2, h3, h4, h5, by omega⟩
theorem Ent.down {x : Value} {j : Nat × (Nat ⊕ Addr)} (h : Ent W b fp lo x j) (hl : lo' ≤ lo) : Ent W b fp lo' x j := by
 obtain ⟨p, t | pc⟩ := j
 · obtain ⟨pc, h1, h2, h3, h4, h5⟩ := h
   exact ⟨pc, h1.down hl, h2, h3, by omega, h5⟩
 · exact Clo2.down h hl
theorem Bun.down : ∀ {xs : List Value} {js : List (Nat × (Nat ⊕ Addr))}, Bun W b fp lo xs js → lo' ≤ lo → Bun W b fp lo' xs js
 | [], [], _, _ => trivial
 | x :: xs, j :: js, h, hl => ⟨h.1.down hl, Bun.down h.2 hl⟩
 | [], j :: js, h, _ => h.elim
 | x :: xs, [], h, _ => h.elim
theorem Bun.append : ∀ {xs ys : List Value} {js ks : List (Nat × (Nat ⊕ Addr))}, Bun W b fp lo xs js → Bun W b fp lo ys ks → Bun W b fp lo (xs ++ ys) (js ++ ks)
 | [], ys, [], ks, _, h => h
 | x :: xs, ys, j :: js, ks, h, h2 => ⟨h.1, Bun.append h.2 h2⟩
 | [], _, j :: js, _, h, _ => h.elim
 | x :: xs, _, [], _, h, _ => h.elim
theorem Bun.length : ∀ {xs : List Value} {js : List (Nat × (Nat ⊕ Addr))}, Bun W b fp lo xs js → xs.length = js.length
 | [], [], _ => rfl
 | x :: xs, j :: js, h => by simp [Bun.length h.2]
 | [], j :: js, h => h.elim
 | x :: xs, [], h => h.elim
/-- a variable below lo is written -/
theorem Clo2.set {x : Value} {p : Nat} {pc : Addr} {k : Nat} {u : Value} (h : Clo2 W b fp lo x p pc) (hk : k < lo) : Clo2 (W.setCell ⟨k, 0, none⟩ u) b fp lo x p pc := by
 obtain ⟨qb, wb, ab, rfl, h1, h2, h3, h4, ⟨l1, l2, l3⟩, h6⟩ := h
 have hc : ∀ q : Addr, lo ≤ q.block → (W.setCell ⟨k, 0, none⟩ u).cell? q = W.cell? q := fun q hq => World.cell?_setCell_other W _ _ _ (by rintro rfl; simp at hq; omega)
 exact ⟨qb, wb, ab, rfl, (hc _ h6.1).trans h1, (hc _ h6.2.1).trans h2, (hc _ h6.2.2).trans h3, h4, by simpa [World.setCell] using ⟨l1, l2, l3⟩, h6⟩
theorem Ent.set {x : Value} {j : Nat × (Nat ⊕ Addr)} {k : Nat} {u : Value} (h : Ent W b fp lo x j) (hk : k < lo) : Ent (W.setCell ⟨k, 0, none⟩ u) b fp lo x j := by
 obtain ⟨p, t | pc⟩ := j
 · obtain ⟨pc, h1, h2, h3, h4, h5⟩ := h
   exact ⟨pc, h1.set hk, (World.cell?_setCell_other W _ _ _ (by rintro rfl; simp at h4; omega)).trans h2, h3, h4, by simpa [World.setCell] using h5⟩
 · exact Clo2.set h hk
theorem Bun.set : ∀ {xs : List Value} {js : List (Nat × (Nat ⊕ Addr))} {k : Nat} {u : Value}, Bun W b fp lo xs js → k < lo → Bun (W.setCell ⟨k, 0, none⟩ u) b fp lo xs js
 | [], [], _, _, _, _ => trivial
 | x :: xs, j :: js, _, _, h, hl => ⟨h.1.set hl, Bun.set h.2 hl⟩
 | [], j :: js, _, _, h, _ => h.elim
 | x :: xs, [], _, _, h, _ => h.elim
def resolve (f : Addr → Nat) (j : Nat × (Nat ⊕ Addr)) : Nat × (Nat ⊕ Addr) := match j.2 with | .inl t => (j.1, .inl t) | .inr pc => (j.1, .inl (f pc))
/-- all that waited is known -/
theorem Bun.done (f : Addr → Nat) (hl : lo' ≤ lo) : ∀ {xs : List Value} {js : List (Nat × (Nat ⊕ Addr))}, Bun W b fp lo xs js →
   (∀ p pc, (p, Sum.inr pc) ∈ js → W.cell? pc = some (.int .i64 (f pc : Int)) ∧ ¬ fp pc.block ∧ lo' ≤ pc.block ∧ pc.block < W.heap.size) → Bun W b fp lo' xs (js.map (resolve f))
 | [], [], _, _ => trivial
 | x :: xs, (p, .inl t) :: js, h, hf => ⟨h.1.down hl, Bun.done f hl h.2 fun p pc hm => hf p pc (by simp [hm])⟩
 | x :: xs, (p, .inr pc) :: js, h, hf => ⟨⟨pc, Clo2.down h.1 hl, hf p pc (by simp)⟩, Bun.done f hl h.2 fun p pc hm => hf p pc (by simp [hm])⟩
 | [], j :: js, h, _ => h.elim
 | x :: xs, [], h, _ => h.elim
end
/-- the state of act's walk: W0 is the world at its beginning; its own variables lie from there up to lo, as H tells them -/
structure Sta (B b : Nat) (l : List Ac) (ad : Addr) (ca ge : Nat) (W0 : World) (v0 : Wv) (cd : List In) (rw : List Int) (lt : List Value) (lo : Nat) (H : Nat → Option Obj) (W : World) (v : Wv) (m : List Cd) (xs : List Value) (es : List (Nat × (Nat ⊕ Addr))) : Prop where
 g : Gw W B b l ad ca ge v (cd ++ cdI m) (rw ++ cdR m) (lt ++ xs) (cd.length + m.length)
 t : Wto W0 W b v0 v
 u : Bun W b (v.in_ b) lo xs es
 n : ∀ k, W0.heap.size ≤ k → k < lo → ¬ v.in_ b k
 h : ∀ k, W0.heap.size ≤ k → k < lo → W.heap[k]? = H k
 z : lo ≤ W.heap.size
 r : rw.length = cd.length
 x : lt.length ≤ cd.length
 e : es.length ≤ m.length
 y : B ≤ W0.heap.size
section
variable {B b : Nat} {l : List Ac} {ad : Addr} {ca ge : Nat} {W0 : World} {v0 : Wv} {cd : List In} {rw : List Int} {lt : List Value} {lo : Nat} {H : Nat → Option Obj} {W : World} {v : Wv} {m : List Cd} {xs : List Value} {es : List (Nat × (Nat ⊕ Addr))}
theorem cdI_length (m : List Cd) : (cdI m).length = m.length := by simp [cdI]
theorem cdR_length (m : List Cd) : (cdR m).length = m.length := by simp [cdR]
theorem Sta.step (h : Sta B b l ad ca ge W0 v0 cd rw lt lo H W v m xs es) {W' : World} {v' : Wv} {m' : List Cd} {ys : List Value} {js : List (Nat × (Nat ⊕ Addr))}
   (hg : Gw W' B b l ad ca ge v' (cd ++ cdI (m ++ m')) (rw ++ cdR (m ++ m')) (lt ++ (xs ++ ys)) (cd.length + (m ++ m').length)) (ht : Wto W W' b v v') (hu : Bun W' b (v'.in_ b) lo ys js) (hj : js.length ≤ m'.length) :
   Sta B b l ad ca ge W0 v0 cd rw lt lo H W' v' (m ++ m') (xs ++ ys) (es ++ js) :=
 ⟨hg, h.t.trans ht, (h.u.wto ht).append hu, fun k h1 h2 h3 => by
   rcases ht.n k h3 with h4 | h4
   · exact h.n k h1 h2 h4
   · have := h.z; omega, fun k h1 h2 => (ht.o.block k (by have := h.z; omega) (h.n k h1 h2)).trans (h.h k h1 h2), Nat.le_trans h.z ht.o.size, h.r, h.x, by simp only [List.length_append]; have := h.e; omega, h.y⟩
theorem Sta.drew (h : Sta B b l ad ca ge W0 v0 cd rw lt lo H W v m xs es) : Sta B b l ad ca ge W0 v0 cd rw lt lo H W.drew v m xs es :=
 ⟨h.g.drew, h.t.drew, h.u.wto (Wto.refl W b v).drew, h.n, h.h, h.z, h.r, h.x, h.e, h.y⟩
theorem sta_here (h : Sta B b l ad ca ge W0 v0 cd rw lt lo H W v m xs es) {N : Nat} (hN : cd.length + m.length = N) : Calls Try.prog 153 #[.pointer (some ⟨b, 0, none⟩)] W fun en w' => en = .returned (.int .i64 (N : Int)) ∧ w' = W := by
 subst hN
 have := here_i h.g
 rw [List.length_append, cdI_length] at this
 exact this
theorem sta_say (h : Sta B b l ad ca ge W0 v0 cd rw lt lo H W v m xs es) (row : Nat) (o a b' c d : Int) {N : Nat} (hN : cd.length + m.length = N) (hb : N ≤ 1048576) :
   Calls Try.prog 111 #[.pointer (some ⟨b, 0, none⟩), .int .i64 (row : Int), .agg #[.int .i64 o, .int .i64 a, .int .i64 b', .int .i64 c, .int .i64 d]] W fun en w' => en = .returned (.int .i64 (N : Int)) ∧ ∃ v', Sta B b l ad ca ge W0 v0 cd rw lt lo H w' v' (m ++ [sayC o a b' c d row]) xs es := by
 subst hN
 have h1 := say_i h.g (row : Int) ⟨o, a, b', c, d⟩ (by simp [cdI_length]; omega) (by simp [cdR_length, h.r]; omega) (by omega)
 rw [List.length_append, cdI_length] at h1
 refine h1.mono ?_
 rintro en w' ⟨he, v', hg, _, ht⟩
 refine ⟨he, v', ?_⟩
 have := h.step (m' := [sayC o a b' c d row]) (ys := []) (js := []) (by simpa [cdI, cdR, sayC, Nat.add_assoc] using hg) ht trivial (by simp)
 simpa using this
theorem sta_item (h : Sta B b l ad ca ge W0 v0 cd rw lt lo H W v m xs es) (row : Nat) (y : Ac) (tag x e : Int) {N : Nat} (hN : cd.length + m.length = N) (hb : N ≤ 1048576) :
   Calls Try.prog 154 #[.pointer (some ⟨b, 0, none⟩), .int .i64 (row : Int), y.val, .int .i64 tag, .int .i64 x, .int .i64 e] W fun en w' => en = .returned (.tuple #[]) ∧ ∃ v', Sta B b l ad ca ge W0 v0 cd rw lt lo H w' v' (m ++ [itemC row y tag x e]) xs es := by
 subst hN
 have hg0 : Gw W B b l ad ca ge v (cd ++ cdI m) (rw ++ cdR m) (lt ++ xs) (cd ++ cdI m).length := by rw [List.length_append, cdI_length]; exact h.g
 have h1 := item_i hg0 row y tag x e (by simp [cdI_length]; omega) (by simp [cdR_length, h.r]; omega)
 rw [List.length_append, cdI_length] at h1
 refine h1.mono ?_
 rintro en w' ⟨he, v', hg, ht⟩
 refine ⟨he, v', ?_⟩
 have hr : (itemC row y tag x e).row = row := by unfold itemC; split <;> rfl
 have := h.step (m' := [itemC row y tag x e]) (ys := []) (js := []) (by simpa [cdI, cdR, hr, Nat.add_assoc] using hg) ht trivial (by simp)
 simpa using this
theorem sta_jump (h : Sta B b l ad ca ge W0 v0 cd rw lt lo H W v m xs es) (row : Nat) (op : Int) (pc : Addr) (t : Nat) {N : Nat} (hN : cd.length + m.length = N) (hb : N ≤ 1048576) :
   Calls Try.prog 152 #[.pointer (some ⟨b, 0, none⟩), .int .i64 (row : Int), .int .i64 op, .pointer (some pc)] W fun en w' => en = .returned (.tuple #[]) ∧ ∃ v' x, Sta B b l ad ca ge W0 v0 cd rw lt lo H w' v' (m ++ [jmpC op row t]) (xs ++ [x]) (es ++ [(N, .inr pc)]) := by
 subst hN
 have hg0 : Gw W B b l ad ca ge v (cd ++ cdI m) (rw ++ cdR m) (lt ++ xs) (cd ++ cdI m).length := by rw [List.length_append, cdI_length]; exact h.g
 have hxl := h.u.length
 have h1 := jump_i hg0 (row : Int) op pc (by simp [cdI_length]; omega) (by simp [cdR_length, h.r]; omega) (by have := h.x; have := h.e; simp only [List.length_append]; omega)
 rw [List.length_append, cdI_length] at h1
 refine h1.mono ?_
 rintro en w' ⟨he, v', x, hg, ht, hc⟩
 refine ⟨he, v', x, ?_⟩
 refine h.step (m' := [jmpC op row t]) (ys := [x]) (js := [(cd.length + m.length, .inr pc)]) (by simpa [cdI, cdR, jmpC, Nat.add_assoc] using hg) ht ⟨hc.down h.z, trivial⟩ (by simp)
theorem sta_init (hg : Gw W0 B b l ad ca ge v cd rw lt cd.length) (hr : rw.length = cd.length) (hx : lt.length ≤ cd.length) {W1 : World} (hb : Below W0.heap.size W0 W1) : Sta B b l ad ca ge W0 v cd rw lt W1.heap.size (fun k => W1.heap[k]?) W1 v [] [] [] :=
 ⟨by simpa [cdI, cdR] using hg.grow hb, Wto.grow hb, trivial, fun k h1 _ h3 => by have := hg.high _ h3; omega, fun k _ _ => rfl, Nat.le_refl _, hr, hx, by simp, hg.size⟩
theorem sta_set (h : Sta B b l ad ca ge W0 v0 cd rw lt lo H W v m xs es) {k : Nat} {u u0 : Value} {t : TypeId} (h0 : W0.heap.size ≤ k) (hk : k < lo) (hH : H k = some (.cells #[u0] t (0, 0))) :
   Sta B b l ad ca ge W0 v0 cd rw lt lo (upd H k (some (.cells #[u] t (0, 0)))) (W.setCell ⟨k, 0, none⟩ u) v m xs es := by
 have hb : Blk W k t #[u0] := (h.h k h0 hk).trans hH
 have ho : Only (fun i => i = k) W (W.setCell ⟨k, 0, none⟩ u) := (Only.refl (fun i => i = k) W).setCell (.inl rfl) u
 refine ⟨h.g.only ho (fun i hi e => by subst e; exact h.n _ h0 hk hi) (fun i e => by subst e; have := h.y; omega), ⟨h.t.o.setCell (.inr h0) u, h.t.n⟩, h.u.set hk, h.n, fun i h1 h2 => ?_, by have := h.z; simpa [World.setCell] using this, h.r, h.x, h.e, h.y⟩
 by_cases hi : i = k
 · subst hi
   rw [upd_same]
   exact hb.set_ 0 u
 · rw [upd_other _ _ hi]
   exact (Below.heap_setCell W _ u i (by simpa using hi)).trans (h.h i h1 h2)
/-- what act tells, at a row's fuel -/
def ActAll (P : Pl) (l : List Ac) (f : Nat) : Prop := ∀ (B b : Nat) (ad : Addr) (ca ge : Nat) (W : World) (v : Wv) (cd : List In) (rw : List Int) (lt : List Value) (what : Int) (i e : Nat),
 Gw W B b l ad ca ge v cd rw lt cd.length → rw.length = cd.length → lt.length ≤ cd.length → Wf P l f what i e → (what ≠ 5 ∧ what ≠ -1) → cd.length + (actC l f i cd.length).length ≤ 1048576 →
 Calls Try.prog 110 #[.pointer (some ⟨b, 0, none⟩), .int .i64 (i : Int)] W fun en w' => en = .returned (.tuple #[]) ∧ ∃ v' lt', Gw w' B b l ad ca ge v' (cd ++ cdI (actC l f i cd.length)) (rw ++ cdR (actC l f i cd.length)) (lt ++ lt') (cd.length + (actC l f i cd.length).length) ∧ Wto W w' b v v' ∧ Bun w' b (v'.in_ b) W.heap.size lt' (jumpsC cd.length (actC l f i cd.length))
theorem sta_act {P : Pl} {f : Nat} (hall : ActAll P l f) (h : Sta B b l ad ca ge W0 v0 cd rw lt lo H W v m xs es) (what : Int) (i e : Nat) (hw : Wf P l f what i e) (h5 : what ≠ 5 ∧ what ≠ -1) {N : Nat} (hN : cd.length + m.length = N) (hb : N + (actC l f i N).length ≤ 1048576) :
   Calls Try.prog 110 #[.pointer (some ⟨b, 0, none⟩), .int .i64 (i : Int)] W fun en w' => en = .returned (.tuple #[]) ∧ ∃ v' ys, Sta B b l ad ca ge W0 v0 cd rw lt lo H w' v' (m ++ actC l f i N) (xs ++ ys) (es ++ jumpsC N (actC l f i N)) := by
 subst hN
 have hg0 : Gw W B b l ad ca ge v (cd ++ cdI m) (rw ++ cdR m) (lt ++ xs) (cd ++ cdI m).length := by rw [List.length_append, cdI_length]; exact h.g
 have hxl := h.u.length
 have hcl : (cd ++ cdI m).length = cd.length + m.length := by rw [List.length_append, cdI_length]
 have h1 := hall B b ad ca ge W v (cd ++ cdI m) (rw ++ cdR m) (lt ++ xs) what i e hg0 (by simp [cdI_length, cdR_length, h.r]) (by have := h.x; have := h.e; simp only [List.length_append, cdI_length]; omega) hw h5 (by rw [hcl]; omega)
 rw [hcl] at h1
 refine h1.mono ?_
 rintro en w' ⟨he, v', ys, hg, ht, hu⟩
 refine ⟨he, v', ys, ?_⟩
 refine h.step (m' := actC l f i (cd.length + m.length)) (by simpa [cdI, cdR, Nat.add_assoc] using hg) ht (hu.down h.z) (jumpsC_length _ _)
theorem sta_done (h : Sta B b l ad ca ge W0 v0 cd rw lt lo H W v m xs es) (f : Addr → Nat) (he : es.map (resolve f) = jumpsC cd.length m) (hlo : W0.heap.size ≤ lo) (hf : ∀ p pc, (p, Sum.inr pc) ∈ es → ∃ k t, pc = ⟨k, 0, none⟩ ∧ W0.heap.size ≤ k ∧ k < lo ∧ H k = some (.cells #[.int .i64 (f pc : Int)] t (0, 0))) :
   ∃ v' lt', Gw W B b l ad ca ge v' (cd ++ cdI m) (rw ++ cdR m) (lt ++ lt') (cd.length + m.length) ∧ Wto W0 W b v0 v' ∧ Bun W b (v'.in_ b) W0.heap.size lt' (jumpsC cd.length m) := by
 refine ⟨v, xs, h.g, h.t, ?_⟩
 rw [← he]
 refine h.u.done f hlo fun p pc hm => ?_
 obtain ⟨k, t, rfl, h1, h2, h5⟩ := hf p pc hm
 have hb : Blk W k t #[.int .i64 (f ⟨k, 0, none⟩ : Int)] := (h.h _ h1 h2).trans h5
 refine ⟨?_, h.n _ h1 h2, h1, by have := h.z; show k < W.heap.size; omega⟩
 have := hb.cell 0
 simpa using this
end
end Go.Proofs.Ytdpokdcendgfeaa
namespace Go.Proofs.Ytdpokdcendgfeaa
open Go.RowKit
/-- act's own variables: the row, its kids, where it ends, where it fails -/
structure Boxes (W0 : World) (lo : Nat) (H : Nat → Option Obj) (x : Ac) (xb kb : Nat) (ks : List Nat) (eb fb : Nat) (ve vf : Value) : Prop where
 rx : W0.heap.size ≤ xb ∧ xb < lo
 rk : ks ≠ [] → W0.heap.size ≤ kb ∧ kb < lo
 re : W0.heap.size ≤ eb ∧ eb < lo
 rf : W0.heap.size ≤ fb ∧ fb < lo
 ne : xb ≠ eb ∧ xb ≠ fb ∧ eb ≠ fb ∧ (ks ≠ [] → kb ≠ eb ∧ kb ≠ fb)
 hx : H xb = some (.cells x.cells.toArray 49 (0, 0))
 hk : ks ≠ [] → ∃ cur : Array Value, H kb = some (.cells cur 3 (0, 0)) ∧ ∀ (j y : Nat), ks[j]? = some y → cur[j]? = some (.int .i64 (y : Int))
 he : H eb = some (.cells #[ve] 3 (0, 0))
 hf : H fb = some (.cells #[vf] 3 (0, 0))
section
variable {W0 : World} {lo : Nat} {H : Nat → Option Obj} {x : Ac} {xb kb : Nat} {ks : List Nat} {eb fb : Nat} {ve vf : Value}
theorem Boxes.set_e (h : Boxes W0 lo H x xb kb ks eb fb ve vf) (u : Value) : Boxes W0 lo (upd H eb (some (.cells #[u] 3 (0, 0)))) x xb kb ks eb fb u vf :=
 ⟨h.rx, h.rk, h.re, h.rf, h.ne, by rw [upd_other _ _ h.ne.1]; exact h.hx, fun h0 => by rw [upd_other _ _ (h.ne.2.2.2 h0).1]; exact h.hk h0, upd_same _ _ _, by rw [upd_other _ _ (Ne.symm h.ne.2.2.1)]; exact h.hf⟩
theorem Boxes.set_f (h : Boxes W0 lo H x xb kb ks eb fb ve vf) (u : Value) : Boxes W0 lo (upd H fb (some (.cells #[u] 3 (0, 0)))) x xb kb ks eb fb ve u :=
 ⟨h.rx, h.rk, h.re, h.rf, h.ne, by rw [upd_other _ _ h.ne.2.1]; exact h.hx, fun h0 => by rw [upd_other _ _ (h.ne.2.2.2 h0).2]; exact h.hk h0, by rw [upd_other _ _ h.ne.2.2.1]; exact h.he, upd_same _ _ _⟩
variable {B b : Nat} {l : List Ac} {ad : Addr} {ca ge : Nat} {v0 : Wv} {cd : List In} {rw : List Int} {lt : List Value} {W : World} {v : Wv} {m : List Cd} {xs : List Value} {es : List (Nat × (Nat ⊕ Addr))}
/-- what is read of them -/
theorem sta_facts (h : Sta B b l ad ca ge W0 v0 cd rw lt lo H W v m xs es) (hb : Boxes W0 lo H x xb kb ks eb fb ve vf) :
   W.cell? ⟨xb, 0, none⟩ = some (.int .i64 x.k) ∧ W.cell? ⟨xb, 1, none⟩ = some (.int .i64 x.a) ∧ (∀ (j y : Nat), ks[j]? = some y → W.cell? ⟨kb, j, none⟩ = some (.int .i64 (y : Int))) ∧
   W.cell? ⟨eb, 0, none⟩ = some ve ∧ W.cell? ⟨fb, 0, none⟩ = some vf ∧ W.frozen? ⟨eb, 0, none⟩ = false ∧ W.frozen? ⟨fb, 0, none⟩ = false := by
 have hx : Blk W xb 49 x.cells.toArray := (h.h _ hb.rx.1 hb.rx.2).trans hb.hx
 have he : Blk W eb 3 #[ve] := (h.h _ hb.re.1 hb.re.2).trans hb.he
 have hf : Blk W fb 3 #[vf] := (h.h _ hb.rf.1 hb.rf.2).trans hb.hf
 refine ⟨by rw [hx.cell]; rfl, by rw [hx.cell]; rfl, fun j y hj => ?_, by rw [he.cell]; rfl, by rw [hf.cell]; rfl, he.frozen 0, hf.frozen 0⟩
 have h0 : ks ≠ [] := by rintro rfl; simp at hj
 obtain ⟨cur, h1, h2⟩ := hb.hk h0
 have hk : Blk W kb 3 cur := (h.h _ (hb.rk h0).1 (hb.rk h0).2).trans h1
 rw [hk.cell]
 exact h2 j y hj
theorem resolve_jumps (f : Addr → Nat) : ∀ (m : List Cd) (c : Nat), (jumpsC c m).map (resolve f) = jumpsC c m
 | [], c => rfl
 | x :: m, c => by
   simp only [jumpsC]
   split
   · exact resolve_jumps f m (c + 1)
   · simp only [List.map_cons, resolve_jumps f m (c + 1)]
     rfl
/-- the variables at the beginning -/
theorem boxes_init {W0 w2 : World} (u : Value) (n : Nat) (hx : Blk (W0.alloc (.cells x.cells.toArray 49)) W0.heap.size 49 x.cells.toArray) (hb : Below (W0.alloc (.cells x.cells.toArray 49)).heap.size (W0.alloc (.cells x.cells.toArray 49)) w2)
   (hown : w2.ownsRow (W0.alloc (.cells x.cells.toArray 49)).heap.size 3 1 u ks.length (ints (ks.map fun r : Nat => (r : Int)))) (hu : ks ≠ [] → ∃ cap, u = .slice (some ⟨kb, 0, none⟩) ks.length cap) :
   Boxes W0 ((w2.alloc (.cells #[.int .i64 0] 3)).alloc (.cells #[.int .i64 0] 3)).heap.size (fun k => ((w2.alloc (.cells #[.int .i64 0] 3)).alloc (.cells #[.int .i64 0] 3)).heap[k]?) x W0.heap.size kb ks w2.heap.size (w2.heap.size + 1) (.int .i64 0) (.int .i64 0) := by
 have hs := hb.size
 simp at hs
 have hxw : Blk w2 W0.heap.size 49 x.cells.toArray := hx.below hb (by simp)
 have hkk : ks ≠ [] → (W0.heap.size < kb ∧ kb < w2.heap.size) ∧ ∃ cur : Array Value, Blk w2 kb 3 cur ∧ ∀ (j y : Nat), ks[j]? = some y → cur[j]? = some (.int .i64 (y : Int)) := fun h0 => by
   obtain ⟨cap, rfl⟩ := hu h0
   have h1 := hown.lt kb rfl
   simp at h1
   refine ⟨⟨by omega, h1.2⟩, ?_⟩
   rcases hown.2 with ⟨e, _⟩ | ⟨g, cap', cur, e, _, hg, h2, h3, h4, h5⟩
   · simp at e
   · simp only [Value.slice.injEq, Option.some.injEq, Addr.mk.injEq, and_true, true_and] at e
     obtain ⟨rfl, rfl⟩ := e
     refine ⟨cur, hg, fun j y hj => ?_⟩
     have hjl := (List.getElem?_eq_some_iff.1 hj).1
     have h6 : (cur.toList.take (ks.length * 1))[j]? = (ints (ks.map fun r : Nat => (r : Int)))[j]? := by rw [h5]
     rw [List.getElem?_take, if_pos (by omega), ints_get (x := (y : Int)) (by simp [hj])] at h6
     simpa using h6
 have e1 := Blk.new w2 3 #[.int .i64 0]
 have e2 := Blk.new (w2.alloc (.cells #[.int .i64 0] 3)) 3 #[.int .i64 0]
 have hsz : (w2.alloc (.cells #[.int .i64 0] 3)).heap.size = w2.heap.size + 1 := by simp
 rw [hsz] at e2
 refine ⟨⟨Nat.le_refl _, by simp; omega⟩, fun h0 => ⟨by have := (hkk h0).1; omega, by have := (hkk h0).1; simp; omega⟩, ⟨by omega, by simp; omega⟩, ⟨by omega, by simp⟩, ⟨by omega, by omega, by omega, fun h0 => by have := (hkk h0).1; omega⟩, (hxw.alloc _).alloc _, fun h0 => ?_, e1.alloc _, e2⟩
 obtain ⟨_, cur, h1, h2⟩ := hkk h0
 exact ⟨cur, (h1.alloc _).alloc _, h2⟩
end
section
variable {P : Pl} {l : List Ac} {f : Nat} {what : Int} {i e : Nat} {x : Ac}
theorem wf_inv (h : Wf P l (f + 1) what i e) (hx : l[i]? = some x) : ∃ sp, mayV what x.k = true ∧ numV P x = true ∧ 0 ≤ x.n ∧ x.n ≤ (l.length : Int) ∧ (x.k ≠ 1 → x.n = ((kidsV x.k x.n).length : Int)) ∧ Kids (Wf P l f) (wantsV x ((l[i + 1]?.map Ac.k).getD 0)) (i + 1) sp e ∧ kidsS l x.n.toNat (i + 1) = some sp ∧ ((wantsV x ((l[i + 1]?.map Ac.k).getD 0)).length : Int) = x.n ∧ sp.length = x.n.toNat := by
 obtain ⟨x', sp, E, hx', h0', h1', hks', hE', hch'⟩ := rowOk_of _ _ _ _ h
 obtain ⟨y, sp2, hy, hm, hv, h0, hn, hk, _⟩ := h
 rw [hx] at hx' hy
 cases hx'
 cases hy
 have hw := wants_length (k0 := ((l[i + 1]?.map Ac.k).getD 0)) h0 hn
 have hks := kids_kidsS (fun w i e h => wf_end1 h) _ _ _ _ hk
 rw [show (wantsV x ((l[i + 1]?.map Ac.k).getD 0)).length = x.n.toNat by omega] at hks
 have hl := kids_length _ _ _ _ hk
 exact ⟨sp2, hm, hv, h0, h1', hn, hk, hks, hw, by omega⟩
theorem kids_two {R : Int → Nat → Nat → Prop} {w0 w1 : Int} {sp : List (Nat × Nat)} (h : Kids R [w0, w1] i sp e) : ∃ j, sp = [(i, j), (j, e)] ∧ R w0 i j ∧ R w1 j e := by
 match sp, h with
 | [(a, b), (c, d)], h =>
   obtain ⟨h1, h2, h3, h4, h5⟩ := h
   simp only at h1 h3
   subst h1 h3
   simp only [Kids] at h5
   subst h5
   exact ⟨_, rfl, h2, h4⟩
theorem kids_one {R : Int → Nat → Nat → Prop} {w0 : Int} {sp : List (Nat × Nat)} (h : Kids R [w0] i sp e) : sp = [(i, e)] ∧ R w0 i e := by
 match sp, h with
 | [(a, b)], h =>
   obtain ⟨h1, h2, h5⟩ := h
   simp only at h1
   subst h1
   simp only [Kids] at h5
   subst h5
   exact ⟨rfl, h2⟩
theorem kids_three {R : Int → Nat → Nat → Prop} {w0 w1 w2 : Int} {sp : List (Nat × Nat)} (h : Kids R [w0, w1, w2] i sp e) : ∃ j k, sp = [(i, j), (j, k), (k, e)] ∧ R w0 i j ∧ R w1 j k ∧ R w2 k e := by
 match sp, h with
 | [(a, b), (c, d), (g, q)], h =>
   obtain ⟨h1, h2, h3, h4, h6, h7, h5⟩ := h
   simp only at h1 h3 h6
   subst h1 h3 h6
   simp only [Kids] at h5
   subst h5
   exact ⟨_, _, rfl, h2, h4, h7⟩
theorem seqC_append (g : Nat → Nat → List Cd) : ∀ (ks js : List Nat) (c : Nat), seqC g (ks ++ js) c = seqC g ks c ++ seqC g js (c + (seqC g ks c).length)
 | [], js, c => by simp [seqC]
 | k :: ks, js, c => by
   simp only [List.cons_append, seqC, seqC_append g ks js, List.append_assoc, List.length_append, Nat.add_assoc]
theorem seqC_take_le (g : Nat → Nat → List Cd) (ks : List Nat) (j c : Nat) : (seqC g (ks.take j) c).length ≤ (seqC g ks c).length := by
 conv => rhs; rw [← List.take_append_drop j ks]
 rw [seqC_append, List.length_append]
 omega
theorem itemC_to (row : Nat) (y : Ac) (tag x e : Int) : (itemC row y tag x e).to = none := by unfold itemC; split <;> rfl
theorem not_inr {p : Nat} {pc : Addr} : ∀ (m : List Cd) (c : Nat), (p, (Sum.inr pc : Nat ⊕ Addr)) ∉ jumpsC c m
 | [], c => by simp [jumpsC]
 | x :: m, c => by
   simp only [jumpsC]
   split
   · exact not_inr m (c + 1)
   · intro h
     rcases List.mem_cons.1 h with h | h
     · simp at h
     · exact not_inr m (c + 1) h
end
def ActGoal (l : List Ac) (B b : Nat) (ad : Addr) (ca ge : Nat) (W : World) (v : Wv) (cd : List In) (rw : List Int) (lt : List Value) (i : Nat) (M : List Cd) : Prop :=
 Calls Try.prog 110 #[.pointer (some ⟨b, 0, none⟩), .int .i64 (i : Int)] W fun en w' => en = .returned (.tuple #[]) ∧ ∃ v' lt', Gw w' B b l ad ca ge v' (cd ++ cdI M) (rw ++ cdR M) (lt ++ lt') (cd.length + M.length) ∧ Wto W w' b v v' ∧ Bun w' b (v'.in_ b) W.heap.size lt' (jumpsC cd.length M)
end Go.Proofs.Ytdpokdcendgfeaa
