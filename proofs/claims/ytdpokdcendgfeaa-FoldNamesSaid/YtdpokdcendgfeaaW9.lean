/- Several texts in one: The walk of fold.expression, the other kinds. The walk of fold.expression, all kinds joined. The walk of fold.hand. Conditions: those of each. -/
import Derived.Test.YtdpokdcendgfeaaW8
set_option linter.unusedSimpArgs false
set_option linter.unusedVariables false
set_option maxHeartbeats 80000000
namespace Go.Proofs.Ytdpokdcendgfeaa
open Go.RowKit
attribute [local go_sem] par parUpon
theorem head_ka {w : World} {a : Addr} {c : Nat} {l : List Ac} {x : Ac} (h : Ro w a c l) (hp : 0 < l.length) (hx : l[0]? = some x) : w.cell? a = some (.int .i64 x.k) ∧ w.cell? ⟨a.block, a.off + 1, none⟩ = some (.int .i64 x.a) ∧ a.block < w.heap.size := by
 obtain ⟨ad, e, hb, q0, q1, _⟩ := acs_row h.s hx
 injection e with e
 subst e
 rw [show a.add (0 * 6) = a by simp [Addr.add]] at q0 q1
 exact ⟨q0, q1, hb⟩
theorem ev1 {w : World} {p : Addr} {cp : Nat} {k : List Ac} (h1 : Ro w p cp k) : EvMem w [(some p, cp)] [k] :=
 ⟨rfl, fun i oa c l' e1 e2 => by
   match i with
   | 0 => simp at e1 e2; obtain ⟨rfl, rfl⟩ := e1; subst e2; exact ⟨h1.s, h1.n, h1.m⟩
   | j + 1 => simp at e1⟩
set_option maxRecDepth 100000 in
theorem expr_rest (w : World) (ad : Addr) (cl : Nat) (l : List Ac) (i : Nat) (x : Ac) (sp : List (Nat × Nat)) (hs9 : List Ac) (h : Ro w ad cl l) (hs : Small l) (hx : l[i]? = some x) (hk : kidsS l x.n.toNat (i + 1) = some sp) (hhd : Heads (sp.map (sub l)) hs9) (hn2 : sp.length ≤ 2) (hb : ∀ y ∈ hs9, fixedV y = true → -1073741824 ≤ y.a ∧ y.a ≤ 1073741824) (hK : x.k ≠ 28 ∧ x.k ≠ 29 ∧ x.k ≠ 30 ∧ x.k ≠ 31 ∧ x.k ≠ 32 ∧ x.k ≠ 33 ∧ x.k ≠ 34 ∧ x.k ≠ 37 ∧ x.k ≠ 38) :
   Calls Try.prog 75 #[.slice (some ad) l.length cl, .int .i64 (i : Int)] w fun en w' => ResV w' en ((constV x.k hs9).map fun y => (1, some [y])) ∧ Below w.heap.size w w' := by
 have hil := (List.getElem?_eq_some_iff.1 hx).1
 obtain ⟨ad9, e9, hab, hrow⟩ := acs_row h.s hx
 injection e9 with e9
 subst e9
 have HROW := hide (show RowAt w (ad.add (i * 6)) x from hrow)
 have HAB := hide (show (ad.add (i * 6)).block < w.heap.size by rw [add_block]; exact hab)
 have HKD := hide (fun (W : World) (hb : Below w.heap.size w W) => kids_i W ad cl l i x sp (h.s.below hb) hs hx hk h.n h.m)
 have HIN := hide (show ∀ r ∈ sp, r.1 < r.2 ∧ r.2 ≤ l.length from fun r hr => by have := (kidsS_in l _ _ _ hk (by omega)).2 r hr; exact ⟨this.2.1, this.2.2⟩)
 have HRO := hide h
 have HSM := hide hs.1
 obtain ⟨LL, hLL⟩ : ∃ n, l.length = n := ⟨_, rfl⟩
 rw [hLL] at HKD hil
 rw [hLL]
 have HLL := hide hLL
 have hiI : (i : Int) < (LL : Int) := by omega
 have hi0 : (0 : Int) ≤ (i : Int) := by omega
 have HHD := hide hhd
 have HN2 := hide hn2
 have HB9 := hide hb
 have hk28 : (x.k == 28) = false := by simp [hK]
 have hk29 : (x.k == 29) = false := by simp [hK]
 have hk30 : (x.k == 30) = false := by simp [hK]
 have hk31 : (x.k == 31) = false := by simp [hK]
 have hk32 : (x.k == 32) = false := by simp [hK]
 have hk33 : (x.k == 33) = false := by simp [hK]
 have hk34 : (x.k == 34) = false := by simp [hK]
 have hk37 : (x.k == 37) = false := by simp [hK]
 have hk38 : (x.k == 38) = false := by simp [hK]
 obtain ⟨V, hV⟩ : ∃ V, constV x.k hs9 = V := ⟨_, rfl⟩
 rw [hV]
 have HV := hide hV
 clear h hs hx hk hrow hLL hhd hn2 hb hK hV
 go_enter Try.func75, Try.ntmps75
 go_upto_region 1 with fail
 refine wp_region_par (JV w (K17 w (.slice (some ad) LL cl) (.int .i64 (i : Int)) (.pointer (some (ad.add (i * 6)))) (.agg #[.int .i64 x.k, .int .i64 x.a, .int .i64 x.b, .int .i64 x.c, .int .i64 x.d, .int .i64 x.n]) #[.int .i64 x.k, .int .i64 x.a, .int .i64 x.b, .int .i64 x.c, .int .i64 x.d, .int .i64 x.n] sp.length (sp.map (spv ad)))) [[], [], [0, 1], [0, 1, 2], [], [], [4, 5], [], [0, 1, 2, 3, 4, 5, 6, 7], [0, 1, 2, 3, 4, 5, 6, 7, 8]] (by kernel_rfl) (by kernel_rfl) (fun vs => JV.start vs (fun vs i w hi => by match i, hi with | _ + 10, _ => trivial)) (fun vs => ?_)
 refine wpPar_step0 rfl (fun S w9 hS hA hD hJ R hR => ?_) (fun K hK => ?_)
 · go_simp
   exact hR _ _ (hJ.step hJ.b (fun i hij hi hk => hk.keep (Below.refl _ _) hij (fun _ => by decide)) upn_eq)
 go_simp
 refine hK _ ?_
 clear hK K
 refine wpPar_step0 rfl (fun S w9 hS hA hD hJ R hR => ?_) (fun K hK => ?_)
 · go_simp
   exact hR _ _ (hJ.step hJ.b (fun i hij hi hk => hk.keep (Below.refl _ _) hij (fun _ => by decide)) upn_eq)
 go_simp
 refine hK _ ?_
 clear hK K
 refine wpPar_step0 rfl (fun S w9 hS hA hD hJ R hR => ?_) (fun K hK => ?_)
 · have k0 : vs 0 = _ := hJ.k 0 (hA 0 (by decide))
   have k1 : vs 1 = _ := hJ.k 1 (hA 1 (by decide))
   simp only [k0, k1]
   go_simp
   exact hR _ _ (hJ.step hJ.b (fun i hij hi hk => hk.keep (Below.refl _ _) hij (fun _ => by decide)) upn_eq)
 go_simp
 refine hK _ ?_
 clear hK K
 refine wpPar_step0 rfl (fun S w9 hS hA hD hJ R hR => ?_) (fun K hK => ?_)
 · have k2 : vs 2 = _ := hJ.k 2 (hA 2 (by decide))
   obtain ⟨q0, q1, q2, q3, q4, q5⟩ := HROW.out.below HAB.out hJ.b
   simp only [k2]
   go_simp
   exact hR _ _ (hJ.step hJ.b (fun i hij hi hk => hk.keep (Below.refl _ _) hij (fun _ => by decide)) upn_eq)
 go_simp
 refine hK _ ?_
 clear hK K
 refine wpPar_step0 rfl (fun S w9 hS hA hD hJ R hR => ?_) (fun K hK => ?_)
 · go_simp
   exact hR _ _ (hJ.step hJ.b (fun i hij hi hk => hk.keep (Below.refl _ _) hij (fun _ => by decide)) upn_eq)
 go_simp
 refine hK _ ?_
 clear hK K
 refine wpPar_step0 rfl (fun S w9 hS hA hD hJ R hR => ?_) (fun K hK => ?_)
 · go_simp
   exact hR _ _ (hJ.step hJ.b (fun i hij hi hk => hk.keep (Below.refl _ _) hij (fun _ => by decide)) upn_eq)
 go_simp
 refine hK _ ?_
 clear hK K
 refine wpPar_step0 rfl (fun S w9 hS hA hD hJ R hR => ?_) (fun K hK => ?_)
 · have k4 : vs 4 = _ := hJ.k 4 (hA 4 (by decide))
   have k5 : vs 5 = _ := hJ.k 5 (hA 5 (by decide))
   have hfin := (HKD.out w9 hJ.b).mono (fun en w'' hh => show ∃ u, en = .returned u ∧ R u w'' from (by obtain ⟨u, e1, e2, e3⟩ := hh; exact ⟨u, e1, hR _ _ (hJ.step (hJ.b.trans (e3.mono hJ.b.size)) (fun i hij hi hk => hk.keep e3 hij (fun _ => by decide)) (by show World.ownsRow _ _ _ _ (upn vs 6 u 6) _ _; rw [upn_eq]; exact own_down e2 hJ.b.size))⟩))
   refine par_callsF 114 #[.tmp 17, .tmp 18] #[26, 3] (by rfl) Try.f114 Try.func114 (by decide) (by unfold Try.f114; simp) #[(.slice (some ad) LL cl), (.int .i64 (i : Int))] ?_ hfin
   simp [Act.eval, Act.put, k4, k5]
 go_simp
 refine hK _ ?_
 clear hK K
 refine wpPar_step0 rfl (fun S w9 hS hA hD hJ R hR => ?_) (fun K hK => ?_)
 · have h8 : S 8 = false := hD 8 (by decide) (by decide)
   go_simp
   exact hR _ _ (hJ.step (hJ.b.alloc hJ.b.size _) (fun i hij hi hk => hk.keep ((Below.refl _ w9).alloc (Nat.le_refl _) _) hij (fun e => by subst e; rw [h8] at hi; cases hi)) ⟨w9.heap.size, _, upn_eq, hJ.b.size, Blk.new w9 49 _, rfl⟩)
 go_simp
 refine hK _ ?_
 clear hK K
 refine wpPar_step0 rfl (fun S w9 hS hA hD hJ R hR => ?_) (fun K hK => ?_)
 · obtain ⟨g, cs, k7, hg, hblk, hsz⟩ := hJ.k 7 (hA 7 (by decide))
   have k3 : vs 3 = _ := hJ.k 3 (hA 3 (by decide))
   obtain ⟨u0, u1, u2, u3, u4, u5, rfl⟩ : ∃ u0 u1 u2 u3 u4 u5, cs = #[u0, u1, u2, u3, u4, u5] := by
     obtain ⟨l⟩ := cs
     match l, hsz with
     | [u0, u1, u2, u3, u4, u5], _ => exact ⟨u0, u1, u2, u3, u4, u5, rfl⟩
   have hst := box_store hblk x
   have h9 : S 9 = false := hD 9 (by decide) (by decide)
   have hfin := hR undef _ (hJ.step (j := 8) (u := undef) (hJ.b.trans (hst.2.below (fun k hk => by rw [hk]; exact hg) hJ.b.size)) (fun i hij hi hk => K17.only hk hst.2 hij (fun g2 e => by rw [k7] at e; cases e; exact ⟨rfl, _, hst.1, rfl⟩) hblk) ⟨g, (upn_ne (by decide)).trans k7, hg, hst.1⟩)
   obtain ⟨z0, z1, z2, z3, z4, z5, _⟩ := blk6x hblk
   have f0 := hblk.frozen 0
   have f1 := hblk.frozen 1
   have f2 := hblk.frozen 2
   have f3 := hblk.frozen 3
   have f4 := hblk.frozen 4
   have f5 := hblk.frozen 5
   simp only [k3, k7]
   go_simp
   exact hfin
 go_simp
 refine hK _ ?_
 clear hK K
 refine wpPar_step0 rfl (fun S w9 hS hA hD hJ R hR => ?_) (fun K hK => ?_)
 · have k6 : w9.ownsRow w.heap.size 26 1 (vs 6) _ _ := hJ.k 6 (hA 6 (by decide))
   go_simp
   exact hR _ _ (hJ.step hJ.b (fun i hij hi hk => hk.keep (Below.refl _ _) hij (fun _ => by decide)) (by show World.ownsRow _ _ _ _ (upn vs 9 (vs 6) 9) _ _; rw [upn_eq]; exact k6))
 go_simp
 refine hK _ ?_
 clear hK K
 refine wpPar_nil (fun W1 hJ => ?_)
 obtain ⟨gx, k7, hgx, hbx⟩ := hJ.k 8 rfl
 have k9 : W1.ownsRow w.heap.size 26 1 (vs 9) _ _ := hJ.k 9 rfl
 have HBW := hide hJ.b
 have HKO := hide k9
 have HBX := hide hbx
 have HGX := hide hgx
 clear hJ k9 hbx hgx
 simp only [k7]
 clear k7
 have hkm : KsM W1 (vs 9) (sp.map (sub l)) := ksM_sub HRO.out HBW.out HIN.out HKO.out
 have HKM := hide hkm
 have hcn := constant_i W1 x (vs 9) _ hs9 HKM.out HHD.out (by rw [List.length_map]; exact HN2.out) HB9.out (fun e => by obtain ⟨oa, c, rs, e9, h9⟩ := HKM.out; rw [e] at e9; exact ⟨oa, c, e9⟩)
 simp only [Ac.val] at hcn
 rw [HV.out] at hcn
 have HCN := hide hcn
 clear hcn hkm
 obtain ⟨y0, y1, y2, y3, y4, y5, hbx⟩ := blk6x HBX.out
 cases V with
 | some y =>
   go_wp2_with (go_at_call 115; with_reducible refine HCN.out.mono ?_; rintro en w2 ⟨hc9, hb2⟩; simp only [ConV] at hc9; obtain ⟨aq, rfl, hrq⟩ := hc9; have HRQ := hide hrq; have HB2 := hide hb2; clear hrq hb2)
   go_ret3
   exact ⟨⟨_, rfl, HRQ.out.rin⟩, HBW.out.trans (HB2.out.mono HBW.out.size)⟩
 | none =>
   go_upto_region 5 with (go_at_call 115; with_reducible refine HCN.out.mono ?_; rintro en W3 ⟨hc9, hb2⟩; simp only [ConV] at hc9; subst hc9; have HB2 := hide hb2; clear hb2)
   have HBW3 := hide (HBW.out.trans (HB2.out.mono HBW.out.size))
   have HX3 := hide (HBX.out.below HB2.out HBX.out.lt)
   clear y0 y1 y2 y3 y4 y5 hbx
   obtain ⟨y0, y1, y2, y3, y4, y5, hbx⟩ := blk6x HX3.out
   go_wp2_with fail
   go_ret3
   exact ⟨rfl, HBW3.out⟩
set_option maxRecDepth 100000 in
theorem expr_k28 (w : World) (ad : Addr) (cl : Nat) (l : List Ac) (i : Nat) (x : Ac) (r0 : Nat × Nat) (h0 : Ac) (h : Ro w ad cl l) (hs : Small l) (hx : l[i]? = some x) (hk : kidsS l x.n.toNat (i + 1) = some [r0]) (hh0 : (sub l r0)[0]? = some h0) (hb : ∀ y ∈ [h0], fixedV y = true → -1073741824 ≤ y.a ∧ y.a ≤ 1073741824) (hK : x.k = 28) (h9x : h0.k = 28 → 2 ≤ (sub l r0).length) :
   Calls Try.prog 75 #[.slice (some ad) l.length cl, .int .i64 (i : Int)] w fun en w' => ResV w' en (exprV 28 [sub l r0] [h0]) ∧ Below w.heap.size w w' := by
 have hil := (List.getElem?_eq_some_iff.1 hx).1
 obtain ⟨ad9, e9, hab, hrow⟩ := acs_row h.s hx
 injection e9 with e9
 subst e9
 have HROW := hide (show RowAt w (ad.add (i * 6)) x from hrow)
 have HAB := hide (show (ad.add (i * 6)).block < w.heap.size by rw [add_block]; exact hab)
 have HKD := hide (fun (W : World) (hb : Below w.heap.size w W) => kids_i W ad cl l i x [r0] (h.s.below hb) hs hx hk h.n h.m)
 have HIN := hide (show ∀ r ∈ [r0], r.1 < r.2 ∧ r.2 ≤ l.length from fun r hr => by have := (kidsS_in l _ _ _ hk (by omega)).2 r hr; exact ⟨this.2.1, this.2.2⟩)
 have HRO := hide h
 have HSM := hide hs.1
 obtain ⟨sp, hsp⟩ : ∃ sp, [r0] = sp := ⟨_, rfl⟩
 have HSP := hide hsp
 rw [hsp] at HKD
 obtain ⟨LL, hLL⟩ : ∃ n, l.length = n := ⟨_, rfl⟩
 rw [hLL] at HKD hil
 rw [hLL]
 have HLL := hide hLL
 have hiI : (i : Int) < (LL : Int) := by omega
 have hi0 : (0 : Int) ≤ (i : Int) := by omega
 have HKK := hide hK
 have H0 := hide hh0
 have HB9 := hide hb
 obtain ⟨k0, hk0⟩ : ∃ k, sub l r0 = k := ⟨_, rfl⟩
 rw [hk0] at H0
 rw [hk0]
 have HLK := hide (show k0.length ≤ 262144 by rw [← hk0]; have h7 := HIN.out r0 (by simp); rw [sub_len h7.2]; have := HSM.out; omega)
 have HK01 := hide (hk0)
 obtain ⟨V, hV⟩ : ∃ V, exprV 28 [k0] [h0] = V := ⟨_, rfl⟩
 rw [hV]
 have HV := hide hV
 have HX9 := hide h9x
 try rw [hk0] at HX9
 clear h hs hx hk hrow hLL hsp hK hh0 hb hk0 hV h9x
 go_enter Try.func75, Try.ntmps75
 go_upto_region 1 with fail
 refine wp_region_par (JV w (K17 w (.slice (some ad) LL cl) (.int .i64 (i : Int)) (.pointer (some (ad.add (i * 6)))) (.agg #[.int .i64 x.k, .int .i64 x.a, .int .i64 x.b, .int .i64 x.c, .int .i64 x.d, .int .i64 x.n]) #[.int .i64 x.k, .int .i64 x.a, .int .i64 x.b, .int .i64 x.c, .int .i64 x.d, .int .i64 x.n] sp.length (sp.map (spv ad)))) [[], [], [0, 1], [0, 1, 2], [], [], [4, 5], [], [0, 1, 2, 3, 4, 5, 6, 7], [0, 1, 2, 3, 4, 5, 6, 7, 8]] (by kernel_rfl) (by kernel_rfl) (fun vs => JV.start vs (fun vs i w hi => by match i, hi with | _ + 10, _ => trivial)) (fun vs => ?_)
 refine wpPar_step0 rfl (fun S w9 hS hA hD hJ R hR => ?_) (fun K hK => ?_)
 · go_simp
   exact hR _ _ (hJ.step hJ.b (fun i hij hi hk => hk.keep (Below.refl _ _) hij (fun _ => by decide)) upn_eq)
 go_simp
 refine hK _ ?_
 clear hK K
 refine wpPar_step0 rfl (fun S w9 hS hA hD hJ R hR => ?_) (fun K hK => ?_)
 · go_simp
   exact hR _ _ (hJ.step hJ.b (fun i hij hi hk => hk.keep (Below.refl _ _) hij (fun _ => by decide)) upn_eq)
 go_simp
 refine hK _ ?_
 clear hK K
 refine wpPar_step0 rfl (fun S w9 hS hA hD hJ R hR => ?_) (fun K hK => ?_)
 · have k0 : vs 0 = _ := hJ.k 0 (hA 0 (by decide))
   have k1 : vs 1 = _ := hJ.k 1 (hA 1 (by decide))
   simp only [k0, k1]
   go_simp
   exact hR _ _ (hJ.step hJ.b (fun i hij hi hk => hk.keep (Below.refl _ _) hij (fun _ => by decide)) upn_eq)
 go_simp
 refine hK _ ?_
 clear hK K
 refine wpPar_step0 rfl (fun S w9 hS hA hD hJ R hR => ?_) (fun K hK => ?_)
 · have k2 : vs 2 = _ := hJ.k 2 (hA 2 (by decide))
   obtain ⟨q0, q1, q2, q3, q4, q5⟩ := HROW.out.below HAB.out hJ.b
   simp only [k2]
   go_simp
   exact hR _ _ (hJ.step hJ.b (fun i hij hi hk => hk.keep (Below.refl _ _) hij (fun _ => by decide)) upn_eq)
 go_simp
 refine hK _ ?_
 clear hK K
 refine wpPar_step0 rfl (fun S w9 hS hA hD hJ R hR => ?_) (fun K hK => ?_)
 · go_simp
   exact hR _ _ (hJ.step hJ.b (fun i hij hi hk => hk.keep (Below.refl _ _) hij (fun _ => by decide)) upn_eq)
 go_simp
 refine hK _ ?_
 clear hK K
 refine wpPar_step0 rfl (fun S w9 hS hA hD hJ R hR => ?_) (fun K hK => ?_)
 · go_simp
   exact hR _ _ (hJ.step hJ.b (fun i hij hi hk => hk.keep (Below.refl _ _) hij (fun _ => by decide)) upn_eq)
 go_simp
 refine hK _ ?_
 clear hK K
 refine wpPar_step0 rfl (fun S w9 hS hA hD hJ R hR => ?_) (fun K hK => ?_)
 · have k4 : vs 4 = _ := hJ.k 4 (hA 4 (by decide))
   have k5 : vs 5 = _ := hJ.k 5 (hA 5 (by decide))
   have hfin := (HKD.out w9 hJ.b).mono (fun en w'' hh => show ∃ u, en = .returned u ∧ R u w'' from (by obtain ⟨u, e1, e2, e3⟩ := hh; exact ⟨u, e1, hR _ _ (hJ.step (hJ.b.trans (e3.mono hJ.b.size)) (fun i hij hi hk => hk.keep e3 hij (fun _ => by decide)) (by show World.ownsRow _ _ _ _ (upn vs 6 u 6) _ _; rw [upn_eq]; exact own_down e2 hJ.b.size))⟩))
   refine par_callsF 114 #[.tmp 17, .tmp 18] #[26, 3] (by rfl) Try.f114 Try.func114 (by decide) (by unfold Try.f114; simp) #[(.slice (some ad) LL cl), (.int .i64 (i : Int))] ?_ hfin
   simp [Act.eval, Act.put, k4, k5]
 go_simp
 refine hK _ ?_
 clear hK K
 refine wpPar_step0 rfl (fun S w9 hS hA hD hJ R hR => ?_) (fun K hK => ?_)
 · have h8 : S 8 = false := hD 8 (by decide) (by decide)
   go_simp
   exact hR _ _ (hJ.step (hJ.b.alloc hJ.b.size _) (fun i hij hi hk => hk.keep ((Below.refl _ w9).alloc (Nat.le_refl _) _) hij (fun e => by subst e; rw [h8] at hi; cases hi)) ⟨w9.heap.size, _, upn_eq, hJ.b.size, Blk.new w9 49 _, rfl⟩)
 go_simp
 refine hK _ ?_
 clear hK K
 refine wpPar_step0 rfl (fun S w9 hS hA hD hJ R hR => ?_) (fun K hK => ?_)
 · obtain ⟨g, cs, k7, hg, hblk, hsz⟩ := hJ.k 7 (hA 7 (by decide))
   have k3 : vs 3 = _ := hJ.k 3 (hA 3 (by decide))
   obtain ⟨u0, u1, u2, u3, u4, u5, rfl⟩ : ∃ u0 u1 u2 u3 u4 u5, cs = #[u0, u1, u2, u3, u4, u5] := by
     obtain ⟨l⟩ := cs
     match l, hsz with
     | [u0, u1, u2, u3, u4, u5], _ => exact ⟨u0, u1, u2, u3, u4, u5, rfl⟩
   have hst := box_store hblk x
   have h9 : S 9 = false := hD 9 (by decide) (by decide)
   have hfin := hR undef _ (hJ.step (j := 8) (u := undef) (hJ.b.trans (hst.2.below (fun k hk => by rw [hk]; exact hg) hJ.b.size)) (fun i hij hi hk => K17.only hk hst.2 hij (fun g2 e => by rw [k7] at e; cases e; exact ⟨rfl, _, hst.1, rfl⟩) hblk) ⟨g, (upn_ne (by decide)).trans k7, hg, hst.1⟩)
   obtain ⟨z0, z1, z2, z3, z4, z5, _⟩ := blk6x hblk
   have f0 := hblk.frozen 0
   have f1 := hblk.frozen 1
   have f2 := hblk.frozen 2
   have f3 := hblk.frozen 3
   have f4 := hblk.frozen 4
   have f5 := hblk.frozen 5
   simp only [k3, k7]
   go_simp
   exact hfin
 go_simp
 refine hK _ ?_
 clear hK K
 refine wpPar_step0 rfl (fun S w9 hS hA hD hJ R hR => ?_) (fun K hK => ?_)
 · have k6 : w9.ownsRow w.heap.size 26 1 (vs 6) _ _ := hJ.k 6 (hA 6 (by decide))
   go_simp
   exact hR _ _ (hJ.step hJ.b (fun i hij hi hk => hk.keep (Below.refl _ _) hij (fun _ => by decide)) (by show World.ownsRow _ _ _ _ (upn vs 9 (vs 6) 9) _ _; rw [upn_eq]; exact k6))
 go_simp
 refine hK _ ?_
 clear hK K
 refine wpPar_nil (fun W1 hJ => ?_)
 obtain ⟨gx, k7, hgx, hbx⟩ := hJ.k 8 rfl
 have k9 : W1.ownsRow w.heap.size 26 1 (vs 9) _ _ := hJ.k 9 rfl
 have HBW := hide hJ.b
 have HKO := hide k9
 have HBX := hide hbx
 have HGX := hide hgx
 clear hJ k9 hbx hgx
 simp only [k7]
 clear k7
 have hkm : KsM W1 (vs 9) [k0] := by have h9 := ksM_sub HRO.out HBW.out (sp := sp) (by rw [← HSP.out]; exact HIN.out) HKO.out; rw [← HSP.out] at h9; simp only [List.map_cons, List.map_nil, HK01.out] at h9; exact h9
 have HKM := hide hkm
 obtain ⟨ak, ck, e9, hakb, hck, hxk⟩ := hkm.at_ (by simp)
 simp only [List.length_cons, List.length_nil, Nat.zero_add, Nat.reduceAdd] at e9 hck
 have p0 := (List.getElem?_eq_some_iff.1 H0.out).1
 obtain ⟨a0, c0, qk0, rk0⟩ := hxk 0 k0 rfl p0
 rw [show ak.add 0 = ak by simp [Addr.add]] at qk0
 have hcn := constant_i W1 x (vs 9) [k0] [h0] HKM.out ⟨rfl, fun j k y e1 e2 => by
   match j with
   | 0 => simp at e1 e2; subst e1 e2; exact H0.out
   | j + 1 => simp at e1⟩ (by simp) HB9.out (fun e => by cases e)
 have hkm2 := HKM.out
 rw [e9] at hkm2
 have HKM2 := hide hkm2
 clear hkm2
 rw [e9] at hcn
 simp only [Ac.val] at hcn
 simp only [e9]
 rw [HKK.out] at hcn
 have HCN := hide hcn
 have RK0 := hide rk0
 obtain ⟨L0, hL0⟩ : ∃ n, k0.length = n := ⟨_, rfl⟩
 rw [hL0] at qk0 p0
 have HL0 := hide hL0
 have HQ0 := hide qk0
 have hp0 : (0 : Int) < (L0 : Int) := by omega
 clear hcn hxk hkm e9 rk0 qk0 hL0
 obtain ⟨y0, y1, y2, y3, y4, y5, hbx⟩ := blk6x HBX.out
 rw [HKK.out] at y0
 cases hcv : constV 28 [h0] with
 | some y =>
   rw [hcv] at HCN
   have HE := hide (show V = some (1, some [y]) by rw [← HV.out]; unfold exprV; rw [hcv])
   clear hcv
   go_wp2_with (go_at_call 115; with_reducible refine HCN.out.mono ?_; rintro en w2 ⟨hc9, hb2⟩; simp only [ConV] at hc9; obtain ⟨aq, rfl, hrq⟩ := hc9; have HRQ := hide hrq; have HB2 := hide hb2; clear hrq hb2)
   go_ret3
   rw [HE.out]
   exact ⟨⟨_, rfl, HRQ.out.rin⟩, HBW.out.trans (HB2.out.mono HBW.out.size)⟩
 | none =>
   rw [hcv] at HCN
   have HE := hide (show V = if (((28 : Int) = 28 ∨ (28 : Int) = 29) ∧ h0.k = 28) then some (4, some (k0.drop 1)) else none by rw [← HV.out]; unfold exprV; rw [hcv])
   clear hcv
   go_upto_region 5 with (go_at_call 115; with_reducible refine HCN.out.mono ?_; rintro en W3 ⟨hc9, hb2⟩; simp only [ConV] at hc9; subst hc9; have HB2 := hide hb2; clear hb2)
   have HBW3 := hide (HBW.out.trans (HB2.out.mono HBW.out.size))
   have HX3 := hide (HBX.out.below HB2.out HBX.out.lt)
   clear y0 y1 y2 y3 y4 y5 hbx
   obtain ⟨y0, y1, y2, y3, y4, y5, hbx⟩ := blk6x HX3.out
   rw [HKK.out] at y0
   have qk0 := (HB2.out.cell (p := ak) hakb).trans HQ0.out
   obtain ⟨hd00, hd01, hab0⟩ := head_ka (RK0.out.below HB2.out) (by rw [HL0.out]; exact p0) H0.out
   by_cases hkk : h0.k = 28
   · have hkb : (h0.k == 28) = true := by simp [hkk]
     have HE2 := hide (show V = some (4, some (k0.drop 1)) by rw [HE.out, if_pos ⟨by decide, hkk⟩])
     have hl2 := HX9.out hkk
     rw [HL0.out] at hl2
     have hl2I : (1 : Int) ≤ (L0 : Int) := by omega
     have hcc : ¬ c0 = 1 := by have := RK0.out.n; rw [HL0.out] at this; omega
     have hcI : (L0 : Int) ≤ (c0 : Int) := by have := RK0.out.n; rw [HL0.out] at this; omega
     have HD1 := hide (ro_drop1 (RK0.out.below HB2.out) (by rw [HL0.out]; exact hl2))
     clear hkk
     go_wp2_with fail
     go_quiet (fail)
     go_wp2_with fail
     go_ret3
     refine ⟨?_, below_drewN HBW3.out _⟩
     rw [HE2.out]
     simp only [hcc, if_false]
     exact ⟨_, rfl, (HD1.out.below (below_drewN (Below.refl _ _) _)).rinN (by rw [List.length_drop, HL0.out])⟩
   · have hkb : (h0.k == 28) = false := by simp [hkk]
     have HE2 := hide (show V = none by rw [HE.out, if_neg (fun h => hkk h.2)])
     clear hkk
     go_wp2_with fail
     go_ret3
     exact ⟨by rw [HE2.out]; rfl, HBW3.out⟩
set_option maxRecDepth 100000 in
theorem expr_k29 (w : World) (ad : Addr) (cl : Nat) (l : List Ac) (i : Nat) (x : Ac) (r0 : Nat × Nat) (h0 : Ac) (h : Ro w ad cl l) (hs : Small l) (hx : l[i]? = some x) (hk : kidsS l x.n.toNat (i + 1) = some [r0]) (hh0 : (sub l r0)[0]? = some h0) (hb : ∀ y ∈ [h0], fixedV y = true → -1073741824 ≤ y.a ∧ y.a ≤ 1073741824) (hK : x.k = 29) (h9x : h0.k = 29 → 2 ≤ (sub l r0).length) :
   Calls Try.prog 75 #[.slice (some ad) l.length cl, .int .i64 (i : Int)] w fun en w' => ResV w' en (exprV 29 [sub l r0] [h0]) ∧ Below w.heap.size w w' := by
 have hil := (List.getElem?_eq_some_iff.1 hx).1
 obtain ⟨ad9, e9, hab, hrow⟩ := acs_row h.s hx
 injection e9 with e9
 subst e9
 have HROW := hide (show RowAt w (ad.add (i * 6)) x from hrow)
 have HAB := hide (show (ad.add (i * 6)).block < w.heap.size by rw [add_block]; exact hab)
 have HKD := hide (fun (W : World) (hb : Below w.heap.size w W) => kids_i W ad cl l i x [r0] (h.s.below hb) hs hx hk h.n h.m)
 have HIN := hide (show ∀ r ∈ [r0], r.1 < r.2 ∧ r.2 ≤ l.length from fun r hr => by have := (kidsS_in l _ _ _ hk (by omega)).2 r hr; exact ⟨this.2.1, this.2.2⟩)
 have HRO := hide h
 have HSM := hide hs.1
 obtain ⟨sp, hsp⟩ : ∃ sp, [r0] = sp := ⟨_, rfl⟩
 have HSP := hide hsp
 rw [hsp] at HKD
 obtain ⟨LL, hLL⟩ : ∃ n, l.length = n := ⟨_, rfl⟩
 rw [hLL] at HKD hil
 rw [hLL]
 have HLL := hide hLL
 have hiI : (i : Int) < (LL : Int) := by omega
 have hi0 : (0 : Int) ≤ (i : Int) := by omega
 have HKK := hide hK
 have H0 := hide hh0
 have HB9 := hide hb
 obtain ⟨k0, hk0⟩ : ∃ k, sub l r0 = k := ⟨_, rfl⟩
 rw [hk0] at H0
 rw [hk0]
 have HLK := hide (show k0.length ≤ 262144 by rw [← hk0]; have h7 := HIN.out r0 (by simp); rw [sub_len h7.2]; have := HSM.out; omega)
 have HK01 := hide (hk0)
 obtain ⟨V, hV⟩ : ∃ V, exprV 29 [k0] [h0] = V := ⟨_, rfl⟩
 rw [hV]
 have HV := hide hV
 have HX9 := hide h9x
 try rw [hk0] at HX9
 clear h hs hx hk hrow hLL hsp hK hh0 hb hk0 hV h9x
 go_enter Try.func75, Try.ntmps75
 go_upto_region 1 with fail
 refine wp_region_par (JV w (K17 w (.slice (some ad) LL cl) (.int .i64 (i : Int)) (.pointer (some (ad.add (i * 6)))) (.agg #[.int .i64 x.k, .int .i64 x.a, .int .i64 x.b, .int .i64 x.c, .int .i64 x.d, .int .i64 x.n]) #[.int .i64 x.k, .int .i64 x.a, .int .i64 x.b, .int .i64 x.c, .int .i64 x.d, .int .i64 x.n] sp.length (sp.map (spv ad)))) [[], [], [0, 1], [0, 1, 2], [], [], [4, 5], [], [0, 1, 2, 3, 4, 5, 6, 7], [0, 1, 2, 3, 4, 5, 6, 7, 8]] (by kernel_rfl) (by kernel_rfl) (fun vs => JV.start vs (fun vs i w hi => by match i, hi with | _ + 10, _ => trivial)) (fun vs => ?_)
 refine wpPar_step0 rfl (fun S w9 hS hA hD hJ R hR => ?_) (fun K hK => ?_)
 · go_simp
   exact hR _ _ (hJ.step hJ.b (fun i hij hi hk => hk.keep (Below.refl _ _) hij (fun _ => by decide)) upn_eq)
 go_simp
 refine hK _ ?_
 clear hK K
 refine wpPar_step0 rfl (fun S w9 hS hA hD hJ R hR => ?_) (fun K hK => ?_)
 · go_simp
   exact hR _ _ (hJ.step hJ.b (fun i hij hi hk => hk.keep (Below.refl _ _) hij (fun _ => by decide)) upn_eq)
 go_simp
 refine hK _ ?_
 clear hK K
 refine wpPar_step0 rfl (fun S w9 hS hA hD hJ R hR => ?_) (fun K hK => ?_)
 · have k0 : vs 0 = _ := hJ.k 0 (hA 0 (by decide))
   have k1 : vs 1 = _ := hJ.k 1 (hA 1 (by decide))
   simp only [k0, k1]
   go_simp
   exact hR _ _ (hJ.step hJ.b (fun i hij hi hk => hk.keep (Below.refl _ _) hij (fun _ => by decide)) upn_eq)
 go_simp
 refine hK _ ?_
 clear hK K
 refine wpPar_step0 rfl (fun S w9 hS hA hD hJ R hR => ?_) (fun K hK => ?_)
 · have k2 : vs 2 = _ := hJ.k 2 (hA 2 (by decide))
   obtain ⟨q0, q1, q2, q3, q4, q5⟩ := HROW.out.below HAB.out hJ.b
   simp only [k2]
   go_simp
   exact hR _ _ (hJ.step hJ.b (fun i hij hi hk => hk.keep (Below.refl _ _) hij (fun _ => by decide)) upn_eq)
 go_simp
 refine hK _ ?_
 clear hK K
 refine wpPar_step0 rfl (fun S w9 hS hA hD hJ R hR => ?_) (fun K hK => ?_)
 · go_simp
   exact hR _ _ (hJ.step hJ.b (fun i hij hi hk => hk.keep (Below.refl _ _) hij (fun _ => by decide)) upn_eq)
 go_simp
 refine hK _ ?_
 clear hK K
 refine wpPar_step0 rfl (fun S w9 hS hA hD hJ R hR => ?_) (fun K hK => ?_)
 · go_simp
   exact hR _ _ (hJ.step hJ.b (fun i hij hi hk => hk.keep (Below.refl _ _) hij (fun _ => by decide)) upn_eq)
 go_simp
 refine hK _ ?_
 clear hK K
 refine wpPar_step0 rfl (fun S w9 hS hA hD hJ R hR => ?_) (fun K hK => ?_)
 · have k4 : vs 4 = _ := hJ.k 4 (hA 4 (by decide))
   have k5 : vs 5 = _ := hJ.k 5 (hA 5 (by decide))
   have hfin := (HKD.out w9 hJ.b).mono (fun en w'' hh => show ∃ u, en = .returned u ∧ R u w'' from (by obtain ⟨u, e1, e2, e3⟩ := hh; exact ⟨u, e1, hR _ _ (hJ.step (hJ.b.trans (e3.mono hJ.b.size)) (fun i hij hi hk => hk.keep e3 hij (fun _ => by decide)) (by show World.ownsRow _ _ _ _ (upn vs 6 u 6) _ _; rw [upn_eq]; exact own_down e2 hJ.b.size))⟩))
   refine par_callsF 114 #[.tmp 17, .tmp 18] #[26, 3] (by rfl) Try.f114 Try.func114 (by decide) (by unfold Try.f114; simp) #[(.slice (some ad) LL cl), (.int .i64 (i : Int))] ?_ hfin
   simp [Act.eval, Act.put, k4, k5]
 go_simp
 refine hK _ ?_
 clear hK K
 refine wpPar_step0 rfl (fun S w9 hS hA hD hJ R hR => ?_) (fun K hK => ?_)
 · have h8 : S 8 = false := hD 8 (by decide) (by decide)
   go_simp
   exact hR _ _ (hJ.step (hJ.b.alloc hJ.b.size _) (fun i hij hi hk => hk.keep ((Below.refl _ w9).alloc (Nat.le_refl _) _) hij (fun e => by subst e; rw [h8] at hi; cases hi)) ⟨w9.heap.size, _, upn_eq, hJ.b.size, Blk.new w9 49 _, rfl⟩)
 go_simp
 refine hK _ ?_
 clear hK K
 refine wpPar_step0 rfl (fun S w9 hS hA hD hJ R hR => ?_) (fun K hK => ?_)
 · obtain ⟨g, cs, k7, hg, hblk, hsz⟩ := hJ.k 7 (hA 7 (by decide))
   have k3 : vs 3 = _ := hJ.k 3 (hA 3 (by decide))
   obtain ⟨u0, u1, u2, u3, u4, u5, rfl⟩ : ∃ u0 u1 u2 u3 u4 u5, cs = #[u0, u1, u2, u3, u4, u5] := by
     obtain ⟨l⟩ := cs
     match l, hsz with
     | [u0, u1, u2, u3, u4, u5], _ => exact ⟨u0, u1, u2, u3, u4, u5, rfl⟩
   have hst := box_store hblk x
   have h9 : S 9 = false := hD 9 (by decide) (by decide)
   have hfin := hR undef _ (hJ.step (j := 8) (u := undef) (hJ.b.trans (hst.2.below (fun k hk => by rw [hk]; exact hg) hJ.b.size)) (fun i hij hi hk => K17.only hk hst.2 hij (fun g2 e => by rw [k7] at e; cases e; exact ⟨rfl, _, hst.1, rfl⟩) hblk) ⟨g, (upn_ne (by decide)).trans k7, hg, hst.1⟩)
   obtain ⟨z0, z1, z2, z3, z4, z5, _⟩ := blk6x hblk
   have f0 := hblk.frozen 0
   have f1 := hblk.frozen 1
   have f2 := hblk.frozen 2
   have f3 := hblk.frozen 3
   have f4 := hblk.frozen 4
   have f5 := hblk.frozen 5
   simp only [k3, k7]
   go_simp
   exact hfin
 go_simp
 refine hK _ ?_
 clear hK K
 refine wpPar_step0 rfl (fun S w9 hS hA hD hJ R hR => ?_) (fun K hK => ?_)
 · have k6 : w9.ownsRow w.heap.size 26 1 (vs 6) _ _ := hJ.k 6 (hA 6 (by decide))
   go_simp
   exact hR _ _ (hJ.step hJ.b (fun i hij hi hk => hk.keep (Below.refl _ _) hij (fun _ => by decide)) (by show World.ownsRow _ _ _ _ (upn vs 9 (vs 6) 9) _ _; rw [upn_eq]; exact k6))
 go_simp
 refine hK _ ?_
 clear hK K
 refine wpPar_nil (fun W1 hJ => ?_)
 obtain ⟨gx, k7, hgx, hbx⟩ := hJ.k 8 rfl
 have k9 : W1.ownsRow w.heap.size 26 1 (vs 9) _ _ := hJ.k 9 rfl
 have HBW := hide hJ.b
 have HKO := hide k9
 have HBX := hide hbx
 have HGX := hide hgx
 clear hJ k9 hbx hgx
 simp only [k7]
 clear k7
 have hkm : KsM W1 (vs 9) [k0] := by have h9 := ksM_sub HRO.out HBW.out (sp := sp) (by rw [← HSP.out]; exact HIN.out) HKO.out; rw [← HSP.out] at h9; simp only [List.map_cons, List.map_nil, HK01.out] at h9; exact h9
 have HKM := hide hkm
 obtain ⟨ak, ck, e9, hakb, hck, hxk⟩ := hkm.at_ (by simp)
 simp only [List.length_cons, List.length_nil, Nat.zero_add, Nat.reduceAdd] at e9 hck
 have p0 := (List.getElem?_eq_some_iff.1 H0.out).1
 obtain ⟨a0, c0, qk0, rk0⟩ := hxk 0 k0 rfl p0
 rw [show ak.add 0 = ak by simp [Addr.add]] at qk0
 have hcn := constant_i W1 x (vs 9) [k0] [h0] HKM.out ⟨rfl, fun j k y e1 e2 => by
   match j with
   | 0 => simp at e1 e2; subst e1 e2; exact H0.out
   | j + 1 => simp at e1⟩ (by simp) HB9.out (fun e => by cases e)
 have hkm2 := HKM.out
 rw [e9] at hkm2
 have HKM2 := hide hkm2
 clear hkm2
 rw [e9] at hcn
 simp only [Ac.val] at hcn
 simp only [e9]
 rw [HKK.out] at hcn
 have HCN := hide hcn
 have RK0 := hide rk0
 obtain ⟨L0, hL0⟩ : ∃ n, k0.length = n := ⟨_, rfl⟩
 rw [hL0] at qk0 p0
 have HL0 := hide hL0
 have HQ0 := hide qk0
 have hp0 : (0 : Int) < (L0 : Int) := by omega
 clear hcn hxk hkm e9 rk0 qk0 hL0
 obtain ⟨y0, y1, y2, y3, y4, y5, hbx⟩ := blk6x HBX.out
 rw [HKK.out] at y0
 cases hcv : constV 29 [h0] with
 | some y =>
   rw [hcv] at HCN
   have HE := hide (show V = some (1, some [y]) by rw [← HV.out]; unfold exprV; rw [hcv])
   clear hcv
   go_wp2_with (go_at_call 115; with_reducible refine HCN.out.mono ?_; rintro en w2 ⟨hc9, hb2⟩; simp only [ConV] at hc9; obtain ⟨aq, rfl, hrq⟩ := hc9; have HRQ := hide hrq; have HB2 := hide hb2; clear hrq hb2)
   go_ret3
   rw [HE.out]
   exact ⟨⟨_, rfl, HRQ.out.rin⟩, HBW.out.trans (HB2.out.mono HBW.out.size)⟩
 | none =>
   rw [hcv] at HCN
   have HE := hide (show V = if (((29 : Int) = 28 ∨ (29 : Int) = 29) ∧ h0.k = 29) then some (4, some (k0.drop 1)) else none by rw [← HV.out]; unfold exprV; rw [hcv])
   clear hcv
   go_upto_region 5 with (go_at_call 115; with_reducible refine HCN.out.mono ?_; rintro en W3 ⟨hc9, hb2⟩; simp only [ConV] at hc9; subst hc9; have HB2 := hide hb2; clear hb2)
   have HBW3 := hide (HBW.out.trans (HB2.out.mono HBW.out.size))
   have HX3 := hide (HBX.out.below HB2.out HBX.out.lt)
   clear y0 y1 y2 y3 y4 y5 hbx
   obtain ⟨y0, y1, y2, y3, y4, y5, hbx⟩ := blk6x HX3.out
   rw [HKK.out] at y0
   have qk0 := (HB2.out.cell (p := ak) hakb).trans HQ0.out
   obtain ⟨hd00, hd01, hab0⟩ := head_ka (RK0.out.below HB2.out) (by rw [HL0.out]; exact p0) H0.out
   by_cases hkk : h0.k = 29
   · have hkb : (h0.k == 29) = true := by simp [hkk]
     have HE2 := hide (show V = some (4, some (k0.drop 1)) by rw [HE.out, if_pos ⟨by decide, hkk⟩])
     have hl2 := HX9.out hkk
     rw [HL0.out] at hl2
     have hl2I : (1 : Int) ≤ (L0 : Int) := by omega
     have hcc : ¬ c0 = 1 := by have := RK0.out.n; rw [HL0.out] at this; omega
     have hcI : (L0 : Int) ≤ (c0 : Int) := by have := RK0.out.n; rw [HL0.out] at this; omega
     have HD1 := hide (ro_drop1 (RK0.out.below HB2.out) (by rw [HL0.out]; exact hl2))
     clear hkk
     go_wp2_with fail
     go_quiet (fail)
     go_wp2_with fail
     go_ret3
     refine ⟨?_, below_drewN HBW3.out _⟩
     rw [HE2.out]
     simp only [hcc, if_false]
     exact ⟨_, rfl, (HD1.out.below (below_drewN (Below.refl _ _) _)).rinN (by rw [List.length_drop, HL0.out])⟩
   · have hkb : (h0.k == 29) = false := by simp [hkk]
     have HE2 := hide (show V = none by rw [HE.out, if_neg (fun h => hkk h.2)])
     clear hkk
     go_wp2_with fail
     go_ret3
     exact ⟨by rw [HE2.out]; rfl, HBW3.out⟩
set_option maxRecDepth 100000 in
theorem expr_k34 (w : World) (ad : Addr) (cl : Nat) (l : List Ac) (i : Nat) (x : Ac) (r0 r1 : Nat × Nat) (h0 h1 : Ac) (h : Ro w ad cl l) (hs : Small l) (hx : l[i]? = some x) (hk : kidsS l x.n.toNat (i + 1) = some [r0, r1]) (hh0 : (sub l r0)[0]? = some h0) (hh1 : (sub l r1)[0]? = some h1) (hb : ∀ y ∈ [h0, h1], fixedV y = true → -1073741824 ≤ y.a ∧ y.a ≤ 1073741824) (hK : x.k = 34) (h9x : l.length ≤ 131072) :
   Calls Try.prog 75 #[.slice (some ad) l.length cl, .int .i64 (i : Int)] w fun en w' => ResV w' en (exprV 34 [sub l r0, sub l r1] [h0, h1]) ∧ Below w.heap.size w w' := by
 have hil := (List.getElem?_eq_some_iff.1 hx).1
 obtain ⟨ad9, e9, hab, hrow⟩ := acs_row h.s hx
 injection e9 with e9
 subst e9
 have HROW := hide (show RowAt w (ad.add (i * 6)) x from hrow)
 have HAB := hide (show (ad.add (i * 6)).block < w.heap.size by rw [add_block]; exact hab)
 have HKD := hide (fun (W : World) (hb : Below w.heap.size w W) => kids_i W ad cl l i x [r0, r1] (h.s.below hb) hs hx hk h.n h.m)
 have HIN := hide (show ∀ r ∈ [r0, r1], r.1 < r.2 ∧ r.2 ≤ l.length from fun r hr => by have := (kidsS_in l _ _ _ hk (by omega)).2 r hr; exact ⟨this.2.1, this.2.2⟩)
 have HRO := hide h
 have HSM := hide h9x
 obtain ⟨sp, hsp⟩ : ∃ sp, [r0, r1] = sp := ⟨_, rfl⟩
 have HSP := hide hsp
 rw [hsp] at HKD
 obtain ⟨LL, hLL⟩ : ∃ n, l.length = n := ⟨_, rfl⟩
 rw [hLL] at HKD hil
 rw [hLL]
 have HLL := hide hLL
 have hiI : (i : Int) < (LL : Int) := by omega
 have hi0 : (0 : Int) ≤ (i : Int) := by omega
 have HKK := hide hK
 have H0 := hide hh0
 have H1 := hide hh1
 have HB9 := hide hb
 obtain ⟨k0, hk0⟩ : ∃ k, sub l r0 = k := ⟨_, rfl⟩
 rw [hk0] at H0
 obtain ⟨k1, hk1⟩ : ∃ k, sub l r1 = k := ⟨_, rfl⟩
 rw [hk1] at H1
 rw [hk0, hk1]
 have HLK := hide (show k0.length ≤ 131072 ∧ k1.length ≤ 131072 by rw [← hk0, ← hk1]; have h7 := HIN.out r0 (by simp); have h8 := HIN.out r1 (by simp); rw [sub_len h7.2, sub_len h8.2]; have := HSM.out; omega)
 have HK01 := hide (And.intro hk0 hk1)
 obtain ⟨V, hV⟩ : ∃ V, exprV 34 [k0, k1] [h0, h1] = V := ⟨_, rfl⟩
 rw [hV]
 have HV := hide hV
 have HX9 := hide h9x
 try rw [hk0] at HX9
 clear h hs hx hk hrow hLL hsp hK hh0 hh1 hb hk0 hk1 hV h9x
 go_enter Try.func75, Try.ntmps75
 go_upto_region 1 with fail
 refine wp_region_par (JV w (K17 w (.slice (some ad) LL cl) (.int .i64 (i : Int)) (.pointer (some (ad.add (i * 6)))) (.agg #[.int .i64 x.k, .int .i64 x.a, .int .i64 x.b, .int .i64 x.c, .int .i64 x.d, .int .i64 x.n]) #[.int .i64 x.k, .int .i64 x.a, .int .i64 x.b, .int .i64 x.c, .int .i64 x.d, .int .i64 x.n] sp.length (sp.map (spv ad)))) [[], [], [0, 1], [0, 1, 2], [], [], [4, 5], [], [0, 1, 2, 3, 4, 5, 6, 7], [0, 1, 2, 3, 4, 5, 6, 7, 8]] (by kernel_rfl) (by kernel_rfl) (fun vs => JV.start vs (fun vs i w hi => by match i, hi with | _ + 10, _ => trivial)) (fun vs => ?_)
 refine wpPar_step0 rfl (fun S w9 hS hA hD hJ R hR => ?_) (fun K hK => ?_)
 · go_simp
   exact hR _ _ (hJ.step hJ.b (fun i hij hi hk => hk.keep (Below.refl _ _) hij (fun _ => by decide)) upn_eq)
 go_simp
 refine hK _ ?_
 clear hK K
 refine wpPar_step0 rfl (fun S w9 hS hA hD hJ R hR => ?_) (fun K hK => ?_)
 · go_simp
   exact hR _ _ (hJ.step hJ.b (fun i hij hi hk => hk.keep (Below.refl _ _) hij (fun _ => by decide)) upn_eq)
 go_simp
 refine hK _ ?_
 clear hK K
 refine wpPar_step0 rfl (fun S w9 hS hA hD hJ R hR => ?_) (fun K hK => ?_)
 · have k0 : vs 0 = _ := hJ.k 0 (hA 0 (by decide))
   have k1 : vs 1 = _ := hJ.k 1 (hA 1 (by decide))
   simp only [k0, k1]
   go_simp
   exact hR _ _ (hJ.step hJ.b (fun i hij hi hk => hk.keep (Below.refl _ _) hij (fun _ => by decide)) upn_eq)
 go_simp
 refine hK _ ?_
 clear hK K
 refine wpPar_step0 rfl (fun S w9 hS hA hD hJ R hR => ?_) (fun K hK => ?_)
 · have k2 : vs 2 = _ := hJ.k 2 (hA 2 (by decide))
   obtain ⟨q0, q1, q2, q3, q4, q5⟩ := HROW.out.below HAB.out hJ.b
   simp only [k2]
   go_simp
   exact hR _ _ (hJ.step hJ.b (fun i hij hi hk => hk.keep (Below.refl _ _) hij (fun _ => by decide)) upn_eq)
 go_simp
 refine hK _ ?_
 clear hK K
 refine wpPar_step0 rfl (fun S w9 hS hA hD hJ R hR => ?_) (fun K hK => ?_)
 · go_simp
   exact hR _ _ (hJ.step hJ.b (fun i hij hi hk => hk.keep (Below.refl _ _) hij (fun _ => by decide)) upn_eq)
 go_simp
 refine hK _ ?_
 clear hK K
 refine wpPar_step0 rfl (fun S w9 hS hA hD hJ R hR => ?_) (fun K hK => ?_)
 · go_simp
   exact hR _ _ (hJ.step hJ.b (fun i hij hi hk => hk.keep (Below.refl _ _) hij (fun _ => by decide)) upn_eq)
 go_simp
 refine hK _ ?_
 clear hK K
 refine wpPar_step0 rfl (fun S w9 hS hA hD hJ R hR => ?_) (fun K hK => ?_)
 · have k4 : vs 4 = _ := hJ.k 4 (hA 4 (by decide))
   have k5 : vs 5 = _ := hJ.k 5 (hA 5 (by decide))
   have hfin := (HKD.out w9 hJ.b).mono (fun en w'' hh => show ∃ u, en = .returned u ∧ R u w'' from (by obtain ⟨u, e1, e2, e3⟩ := hh; exact ⟨u, e1, hR _ _ (hJ.step (hJ.b.trans (e3.mono hJ.b.size)) (fun i hij hi hk => hk.keep e3 hij (fun _ => by decide)) (by show World.ownsRow _ _ _ _ (upn vs 6 u 6) _ _; rw [upn_eq]; exact own_down e2 hJ.b.size))⟩))
   refine par_callsF 114 #[.tmp 17, .tmp 18] #[26, 3] (by rfl) Try.f114 Try.func114 (by decide) (by unfold Try.f114; simp) #[(.slice (some ad) LL cl), (.int .i64 (i : Int))] ?_ hfin
   simp [Act.eval, Act.put, k4, k5]
 go_simp
 refine hK _ ?_
 clear hK K
 refine wpPar_step0 rfl (fun S w9 hS hA hD hJ R hR => ?_) (fun K hK => ?_)
 · have h8 : S 8 = false := hD 8 (by decide) (by decide)
   go_simp
   exact hR _ _ (hJ.step (hJ.b.alloc hJ.b.size _) (fun i hij hi hk => hk.keep ((Below.refl _ w9).alloc (Nat.le_refl _) _) hij (fun e => by subst e; rw [h8] at hi; cases hi)) ⟨w9.heap.size, _, upn_eq, hJ.b.size, Blk.new w9 49 _, rfl⟩)
 go_simp
 refine hK _ ?_
 clear hK K
 refine wpPar_step0 rfl (fun S w9 hS hA hD hJ R hR => ?_) (fun K hK => ?_)
 · obtain ⟨g, cs, k7, hg, hblk, hsz⟩ := hJ.k 7 (hA 7 (by decide))
   have k3 : vs 3 = _ := hJ.k 3 (hA 3 (by decide))
   obtain ⟨u0, u1, u2, u3, u4, u5, rfl⟩ : ∃ u0 u1 u2 u3 u4 u5, cs = #[u0, u1, u2, u3, u4, u5] := by
     obtain ⟨l⟩ := cs
     match l, hsz with
     | [u0, u1, u2, u3, u4, u5], _ => exact ⟨u0, u1, u2, u3, u4, u5, rfl⟩
   have hst := box_store hblk x
   have h9 : S 9 = false := hD 9 (by decide) (by decide)
   have hfin := hR undef _ (hJ.step (j := 8) (u := undef) (hJ.b.trans (hst.2.below (fun k hk => by rw [hk]; exact hg) hJ.b.size)) (fun i hij hi hk => K17.only hk hst.2 hij (fun g2 e => by rw [k7] at e; cases e; exact ⟨rfl, _, hst.1, rfl⟩) hblk) ⟨g, (upn_ne (by decide)).trans k7, hg, hst.1⟩)
   obtain ⟨z0, z1, z2, z3, z4, z5, _⟩ := blk6x hblk
   have f0 := hblk.frozen 0
   have f1 := hblk.frozen 1
   have f2 := hblk.frozen 2
   have f3 := hblk.frozen 3
   have f4 := hblk.frozen 4
   have f5 := hblk.frozen 5
   simp only [k3, k7]
   go_simp
   exact hfin
 go_simp
 refine hK _ ?_
 clear hK K
 refine wpPar_step0 rfl (fun S w9 hS hA hD hJ R hR => ?_) (fun K hK => ?_)
 · have k6 : w9.ownsRow w.heap.size 26 1 (vs 6) _ _ := hJ.k 6 (hA 6 (by decide))
   go_simp
   exact hR _ _ (hJ.step hJ.b (fun i hij hi hk => hk.keep (Below.refl _ _) hij (fun _ => by decide)) (by show World.ownsRow _ _ _ _ (upn vs 9 (vs 6) 9) _ _; rw [upn_eq]; exact k6))
 go_simp
 refine hK _ ?_
 clear hK K
 refine wpPar_nil (fun W1 hJ => ?_)
 obtain ⟨gx, k7, hgx, hbx⟩ := hJ.k 8 rfl
 have k9 : W1.ownsRow w.heap.size 26 1 (vs 9) _ _ := hJ.k 9 rfl
 have HBW := hide hJ.b
 have HKO := hide k9
 have HBX := hide hbx
 have HGX := hide hgx
 clear hJ k9 hbx hgx
 simp only [k7]
 clear k7
 have hkm : KsM W1 (vs 9) [k0, k1] := by have h9 := ksM_sub HRO.out HBW.out (sp := sp) (by rw [← HSP.out]; exact HIN.out) HKO.out; rw [← HSP.out] at h9; simp only [List.map_cons, List.map_nil, HK01.out.1, HK01.out.2] at h9; exact h9
 have HKM := hide hkm
 obtain ⟨ak, ck, e9, hakb, hck, hxk⟩ := hkm.at_ (by simp)
 simp only [List.length_cons, List.length_nil, Nat.zero_add, Nat.reduceAdd] at e9 hck
 have p0 := (List.getElem?_eq_some_iff.1 H0.out).1
 have p1 := (List.getElem?_eq_some_iff.1 H1.out).1
 obtain ⟨a0, c0, qk0, rk0⟩ := hxk 0 k0 rfl p0
 obtain ⟨a1, c1, qk1, rk1⟩ := hxk 1 k1 rfl p1
 rw [show ak.add 0 = ak by simp [Addr.add]] at qk0
 rw [show ak.add 1 = ⟨ak.block, ak.off + 1, none⟩ by simp [Addr.add]] at qk1
 have hcn := constant_i W1 x (vs 9) [k0, k1] [h0, h1] HKM.out ⟨rfl, fun j k y e1 e2 => by
   match j with
   | 0 => simp at e1 e2; subst e1 e2; exact H0.out
   | 1 => simp at e1 e2; subst e1 e2; exact H1.out
   | j + 2 => simp at e1⟩ (by simp) HB9.out (fun e => by cases e)
 have hkm2 := HKM.out
 rw [e9] at hkm2
 have HKM2 := hide hkm2
 clear hkm2
 rw [e9] at hcn
 simp only [Ac.val] at hcn
 simp only [e9]
 rw [HKK.out] at hcn
 have HCN := hide hcn
 have RK0 := hide rk0
 have RK1 := hide rk1
 obtain ⟨L0, hL0⟩ : ∃ n, k0.length = n := ⟨_, rfl⟩
 rw [hL0] at qk0 p0
 have HL0 := hide hL0
 have HQ0 := hide qk0
 have hp0 : (0 : Int) < (L0 : Int) := by omega
 obtain ⟨L1, hL1⟩ : ∃ n, k1.length = n := ⟨_, rfl⟩
 rw [hL1] at qk1 p1
 have HL1 := hide hL1
 have HQ1 := hide qk1
 have hp1 : (0 : Int) < (L1 : Int) := by omega
 clear hcn hxk hkm e9 rk0 qk0 hL0 rk1 qk1 hL1
 obtain ⟨y0, y1, y2, y3, y4, y5, hbx⟩ := blk6x HBX.out
 rw [HKK.out] at y0
 cases hcv : constV 34 [h0, h1] with
 | some y =>
   rw [hcv] at HCN
   have HE := hide (show V = some (1, some [y]) by rw [← HV.out]; unfold exprV; rw [hcv])
   clear hcv
   go_wp2_with (go_at_call 115; with_reducible refine HCN.out.mono ?_; rintro en w2 ⟨hc9, hb2⟩; simp only [ConV] at hc9; obtain ⟨aq, rfl, hrq⟩ := hc9; have HRQ := hide hrq; have HB2 := hide hb2; clear hrq hb2)
   go_ret3
   rw [HE.out]
   exact ⟨⟨_, rfl, HRQ.out.rin⟩, HBW.out.trans (HB2.out.mono HBW.out.size)⟩
 | none =>
   rw [hcv] at HCN
   have HE := hide (show V = twoV 34 k0 k1 h0 h1 by rw [← HV.out]; unfold exprV; rw [hcv])
   clear hcv
   go_upto_region 5 with (go_at_call 115; with_reducible refine HCN.out.mono ?_; rintro en W3 ⟨hc9, hb2⟩; simp only [ConV] at hc9; subst hc9; have HB2 := hide hb2; clear hb2)
   have HBW3 := hide (HBW.out.trans (HB2.out.mono HBW.out.size))
   have HX3 := hide (HBX.out.below HB2.out HBX.out.lt)
   clear y0 y1 y2 y3 y4 y5 hbx
   obtain ⟨y0, y1, y2, y3, y4, y5, hbx⟩ := blk6x HX3.out
   rw [HKK.out] at y0
   have qk0 := (HB2.out.cell (p := ak) hakb).trans HQ0.out
   have qk1 := (HB2.out.cell (p := ⟨ak.block, ak.off + 1, none⟩) hakb).trans HQ1.out
   obtain ⟨hd00, hd01, hab0⟩ := head_ka (RK0.out.below HB2.out) (by rw [HL0.out]; exact p0) H0.out
   obtain ⟨hd10, hd11, hab1⟩ := head_ka (RK1.out.below HB2.out) (by rw [HL1.out]; exact p1) H1.out
   have hq1 := IntWalk.i64_in ((0 : Int) + 1) (by omega)
   have hq2 := IntWalk.i64_in ((1 : Int) - 0) (by omega)
   have hq3 := IntWalk.i64_in ((1 : Int) - 1) (by omega)
   have hq4 := IntWalk.i64_in ((1 : Int) + 1) (by omega)
   have HBY := hide (And.intro hbx hakb)
   go_upto_region 33 with fail
   go_loopw [135] (fun t135 W => ∃ j : Nat, t135 = .int .i64 (j : Int) ∧ j ≤ 2 ∧ Hid (∀ i y, i < j → [h0, h1][i]? = some y → y.k ≠ 20) ∧ W = W3) (fun t135 _ => 2 - (intOf t135).toNat)
   case atStart => exact ⟨0, rfl, by omega, hide (fun i y hi => absurd hi (Nat.not_lt_zero _)), rfl⟩
   case round =>
     obtain ⟨j, rfl, hj, HF, rfl⟩ := hrel
     match j, hj with
     | 0, _ =>
       clear hj
       by_cases hkk : h0.k = 20
       · have hb20 : (h0.k != 20) = false := by simp [hkk]
         by_cases ha1 : h0.a = 1
         · have hab9 : (h0.a == 1) = true := by simp [ha1]
           have HE2 := hide (show V = some (7, some k1) by rw [HE.out]; simp [twoV, hkk, ha1])
           clear ha1 hkk
           go_wp2_with fail
           all_goals try (go_quiet (fail); go_wp2_with fail)
           go_ret3
           exact ⟨by rw [HE2.out]; exact ⟨_, rfl, (RK1.out.below HB2.out).rinN HL1.out⟩, HBW3.out⟩
         · have hab9 : (h0.a == 1) = false := by simp [ha1]
           have HE2 := hide (show V = some (7, some ((⟨29, 0, 0, 0, 0, 0⟩ : Ac).kid 1 :: k1)) by rw [HE.out]; simp [twoV, hkk, ha1])
           clear ha1 hkk
           have HB4 := hide ((Below.refl wr.heap.size wr).alloc (Nat.le_refl _) (.cells #[.slice (some a1) L1 c1] 26))
           have HKN := hide (ksM_new (w' := wr.alloc (.cells #[.slice (some a1) L1 c1] 26)) (rs := [(some a1, c1)]) (ks := [k1]) (rest := []) (n := 1) (c := 1) (ev1 ((RK1.out.below HB2.out).below HB4.out)) (by simp only [slv, List.append_nil, HL1.out]; exact Blk.new wr _ _) (Nat.le_refl _) rfl)
           have hrw := row_r _ ⟨29, 0, 0, 0, 0, 0⟩ _ _ HKN.out (by simp) (by have := HLK.out; simp [rowsV]; omega)
           simp only [Ac.val] at hrw
           have HRW := hide hrw
           clear hrw
           go_wp2_with (go_at_call 120; with_reducible refine (HRW.out).mono ?_; rintro en w9 ⟨u, rfl, hr9, hb9⟩; have HR9 := hide hr9; have HB9 := hide (HB4.out.trans (hb9.mono HB4.out.size)); clear hr9 hb9)
           go_ret3
           exact ⟨by rw [HE2.out]; exact ⟨_, rfl, by simpa using HR9.out⟩, HBW3.out.trans (HB9.out.mono HBW3.out.size)⟩
       · have hb20 : (h0.k != 20) = true := by simp [hkk]
         have HN0 := hide hkk
         clear hkk
         go_wp2_with fail
         go_roundw
         case rel =>
           refine ⟨1, rfl, by omega, hide (fun i y hi e => ?_), trivial⟩
           match i, e with
           | 0, e => simp at e; subst e; exact HN0.out
           | q + 1, _ => omega
         case measure =>
           simp only [intOf]
           decide
     | 1, _ =>
       clear hj
       have HN0 := hide (HF.out 0 h0 (by omega) rfl)
       by_cases hkk : h1.k = 20
       · have hb20 : (h1.k != 20) = false := by simp [hkk]
         by_cases ha1 : h1.a = 1
         · have hab9 : (h1.a == 1) = true := by simp [ha1]
           have HE2 := hide (show V = some (7, some k0) by rw [HE.out]; simp [twoV, hkk, HN0.out, ha1])
           clear ha1 hkk
           go_wp2_with fail
           all_goals try (go_quiet (fail); go_wp2_with fail)
           go_ret3
           exact ⟨by rw [HE2.out]; exact ⟨_, rfl, (RK0.out.below HB2.out).rinN HL0.out⟩, HBW3.out⟩
         · have hab9 : (h1.a == 1) = false := by simp [ha1]
           have HE2 := hide (show V = some (7, some ((⟨29, 0, 0, 0, 0, 0⟩ : Ac).kid 1 :: k0)) by rw [HE.out]; simp [twoV, hkk, HN0.out, ha1])
           clear ha1 hkk
           have HB4 := hide ((Below.refl wr.heap.size wr).alloc (Nat.le_refl _) (.cells #[.slice (some a0) L0 c0] 26))
           have HKN := hide (ksM_new (w' := wr.alloc (.cells #[.slice (some a0) L0 c0] 26)) (rs := [(some a0, c0)]) (ks := [k0]) (rest := []) (n := 1) (c := 1) (ev1 ((RK0.out.below HB2.out).below HB4.out)) (by simp only [slv, List.append_nil, HL0.out]; exact Blk.new wr _ _) (Nat.le_refl _) rfl)
           have hrw := row_r _ ⟨29, 0, 0, 0, 0, 0⟩ _ _ HKN.out (by simp) (by have := HLK.out; simp [rowsV]; omega)
           simp only [Ac.val] at hrw
           have HRW := hide hrw
           clear hrw
           go_wp2_with (go_at_call 120; with_reducible refine (HRW.out).mono ?_; rintro en w9 ⟨u, rfl, hr9, hb9⟩; have HR9 := hide hr9; have HB9 := hide (HB4.out.trans (hb9.mono HB4.out.size)); clear hr9 hb9)
           go_ret3
           exact ⟨by rw [HE2.out]; exact ⟨_, rfl, by simpa using HR9.out⟩, HBW3.out.trans (HB9.out.mono HBW3.out.size)⟩
       · have hb20 : (h1.k != 20) = true := by simp [hkk]
         have HN1 := hide hkk
         clear hkk
         go_wp2_with fail
         go_roundw
         case rel =>
           refine ⟨2, rfl, by omega, hide (fun i y hi e => ?_), trivial⟩
           match i, e with
           | 0, e => simp at e; subst e; exact HN0.out
           | 1, e => simp at e; subst e; exact HN1.out
           | q + 2, _ => omega
         case measure =>
           simp only [intOf]
           decide
     | 2, _ =>
       clear hj
       have HE2 := hide (show V = none by rw [HE.out]; simp [twoV, HF.out 0 h0 (by omega) rfl, HF.out 1 h1 (by omega) rfl])
       go_wp2_with fail
       go_ret3
       exact ⟨by rw [HE2.out]; rfl, HBW3.out⟩
     | q + 3, h => exact absurd h (by omega)
end Go.Proofs.Ytdpokdcendgfeaa
namespace Go.Proofs.Ytdpokdcendgfeaa
open Go.RowKit
/-- what fold.expression needs of the rows below an expression -/
structure EOk (l : List Ac) (i : Nat) (x : Ac) (sp : List (Nat × Nat)) (hs : List Ac) : Prop where
 k : kidsS l x.n.toNat (i + 1) = some sp
 h : Heads (sp.map (sub l)) hs
 n : sp.length ≤ 2
 b : ∀ y ∈ hs, fixedV y = true → -1073741824 ≤ y.a ∧ y.a ≤ 1073741824
 two : (30 ≤ x.k ∧ x.k ≤ 34) ∨ x.k = 37 ∨ x.k = 38 → sp.length = 2
 one : x.k = 28 ∨ x.k = 29 → sp.length = 1
 deep : ∀ r ∈ sp, ∀ y, l[r.1]? = some y → (y.k = 28 ∨ y.k = 29) → r.1 + 2 ≤ r.2
theorem exprV_rest {k : Int} (hk : k ≠ 28 ∧ k ≠ 29 ∧ k ≠ 30 ∧ k ≠ 31 ∧ k ≠ 32 ∧ k ≠ 33 ∧ k ≠ 34 ∧ k ≠ 37 ∧ k ≠ 38) (ks : List (List Ac)) (hs : List Ac) : exprV k ks hs = (constV k hs).map fun y => (1, some [y]) := by
 unfold exprV
 cases constV k hs with
 | some y => rfl
 | none =>
   simp only [Option.map_none]
   split
   · unfold twoV
     simp [hk]
   · simp [hk]
   · rfl
theorem sub_head {l : List Ac} {r : Nat × Nat} (h : r.1 < r.2) : (sub l r)[0]? = l[r.1]? := by
 unfold sub
 rw [List.getElem?_take, if_pos (by omega), List.getElem?_drop]
 rfl
theorem expr_i (w : World) (ad : Addr) (cl : Nat) (l : List Ac) (i : Nat) (x : Ac) (sp : List (Nat × Nat)) (hs : List Ac) (h : Ro w ad cl l) (hsm : Small l) (hl : l.length ≤ 131072) (hx : l[i]? = some x) (he : EOk l i x sp hs) :
   Calls Try.prog 75 #[.slice (some ad) l.length cl, .int .i64 (i : Int)] w fun en w' => ResV w' en (exprV x.k (sp.map (sub l)) hs) ∧ Below w.heap.size w w' := by
 obtain ⟨hk, hh, hn, hb, h2, h1, hd⟩ := he
 have hin := kidsS_in l _ _ _ hk (by have := (List.getElem?_eq_some_iff.1 hx).1; omega)
 by_cases k2 : (30 ≤ x.k ∧ x.k ≤ 34) ∨ x.k = 37 ∨ x.k = 38
 · have hl2 := h2 k2
   match sp, hl2 with
   | [r0, r1], _ =>
     have hhl := hh.1
     simp only [List.map_cons, List.map_nil, List.length_cons, List.length_nil] at hhl
     match hs, hhl with
     | [h0, h1'], _ =>
       have e0 := hh.2 0 (sub l r0) h0 rfl rfl
       have e1 := hh.2 1 (sub l r1) h1' rfl rfl
       simp only [List.map_cons, List.map_nil]
       rcases k2 with k2 | k2 | k2
       · have : x.k = 30 ∨ x.k = 31 ∨ x.k = 32 ∨ x.k = 33 ∨ x.k = 34 := by omega
         rcases this with q | q | q | q | q
         · rw [q]; exact expr_k30 w ad cl l i x r0 r1 h0 h1' h hsm hx hk e0 e1 hb q
         · rw [q]; exact expr_k31 w ad cl l i x r0 r1 h0 h1' h hsm hx hk e0 e1 hb q
         · rw [q]; exact expr_k32 w ad cl l i x r0 r1 h0 h1' h hsm hx hk e0 e1 hb q
         · rw [q]; exact expr_k33 w ad cl l i x r0 r1 h0 h1' h hsm hx hk e0 e1 hb q
         · rw [q]; exact expr_k34 w ad cl l i x r0 r1 h0 h1' h hsm hx hk e0 e1 hb q hl
       · rw [k2]; exact expr_k37 w ad cl l i x r0 r1 h0 h1' h hsm hx hk e0 e1 hb k2
       · rw [k2]; exact expr_k38 w ad cl l i x r0 r1 h0 h1' h hsm hx hk e0 e1 hb k2
 · by_cases k1 : x.k = 28 ∨ x.k = 29
   · have hl1 := h1 k1
     match sp, hl1 with
     | [r0], _ =>
       have hhl := hh.1
       simp only [List.map_cons, List.map_nil, List.length_cons, List.length_nil] at hhl
       match hs, hhl with
       | [h0], _ =>
         have e0 := hh.2 0 (sub l r0) h0 rfl rfl
         have hr := hin.2 r0 (by simp)
         have hd2 : (h0.k = 28 ∨ h0.k = 29) → 2 ≤ (sub l r0).length := fun q => by
           rw [sub_len hr.2.2]
           rw [sub_head hr.2.1] at e0
           have := hd r0 (by simp) h0 e0 q
           omega
         simp only [List.map_cons, List.map_nil]
         rcases k1 with q | q
         · rw [q]; exact expr_k28 w ad cl l i x r0 h0 h hsm hx hk e0 hb q (fun e => hd2 (.inl e))
         · rw [q]; exact expr_k29 w ad cl l i x r0 h0 h hsm hx hk e0 hb q (fun e => hd2 (.inr e))
   · have hk9 : x.k ≠ 28 ∧ x.k ≠ 29 ∧ x.k ≠ 30 ∧ x.k ≠ 31 ∧ x.k ≠ 32 ∧ x.k ≠ 33 ∧ x.k ≠ 34 ∧ x.k ≠ 37 ∧ x.k ≠ 38 := by omega
     rw [exprV_rest hk9]
     exact expr_rest w ad cl l i x sp hs h hsm hx hk hh hn hb hk9
end Go.Proofs.Ytdpokdcendgfeaa
namespace Go.Proofs.Ytdpokdcendgfeaa
open Go.RowKit
/-- what an RTake and what stands behind it become, and how many rows they are -/
def handF (x y z : Ac) : Ac × Nat :=
 if y.k = 10 then (⟨13, x.a, x.b, y.a, y.b, 0⟩, 2) else if y.k = 12 then (⟨16, x.a, x.b, 0, 0, 0⟩, 2) else if z.k = 12 then (⟨15, x.a, x.b, 0, 0, 0⟩, 3) else (⟨14, x.a, x.b, z.a, z.b, 0⟩, 3)
theorem ro_new (w : World) (x : Ac) : Ro (w.alloc (.cells #[.int .i64 x.k, .int .i64 x.a, .int .i64 x.b, .int .i64 x.c, .int .i64 x.d, .int .i64 x.n] 49)) ⟨w.heap.size, 0, none⟩ 1 [x] :=
 ⟨src_blk (t := 49) 1 (by exact Blk.new w _ _), Nat.le_refl _, by decide⟩
set_option maxRecDepth 100000 in
theorem handF_i (w : World) (ad : Addr) (cl : Nat) (l : List Ac) (i : Nat) (x y z : Ac) (h : Ro w ad cl l) (hl : l.length ≤ 262144) (hx : l[i]? = some x) (hy : l[i + 1]? = some y) (hz : y.k ≠ 10 → y.k ≠ 12 → l[i + 2]? = some z) :
   Calls Try.prog 123 #[.slice (some ad) l.length cl, .int .i64 (i : Int)] w fun en w' => ∃ a, en = .returned (.tuple #[.slice (some a) 1 1, .int .i64 ((handF x y z).2 : Int)]) ∧ Ro w' a 1 [(handF x y z).1] ∧ Below w.heap.size w w' := by
 have hil := (List.getElem?_eq_some_iff.1 hy).1
 obtain ⟨ad9, e9, hab, q0, q1, q2, q3, q4, q5⟩ := acs_row h.s hx
 injection e9 with e9
 subst e9
 obtain ⟨ad9, e9, _, r0, r1, r2, r3, r4, r5⟩ := acs_row h.s hy
 injection e9 with e9
 subst e9
 have hb0 : (ad.add (i * 6)).block < w.heap.size := by rw [add_block]; exact hab
 have hb1 : (ad.add ((i + 1) * 6)).block < w.heap.size := by rw [add_block]; exact hab
 have HZ := hide (fun (h10 : y.k ≠ 10) (h12 : y.k ≠ 12) => show RowAt w (ad.add ((i + 2) * 6)) z from by
   obtain ⟨a9, e9, _, h9⟩ := acs_row h.s (hz h10 h12)
   injection e9 with e9
   subst e9
   exact h9)
 have HZL := hide (fun (h10 : y.k ≠ 10) (h12 : y.k ≠ 12) => (List.getElem?_eq_some_iff.1 (hz h10 h12)).1)
 obtain ⟨LL, hLL⟩ : ∃ n, l.length = n := ⟨_, rfl⟩
 rw [hLL] at HZL hil hl
 rw [hLL]
 have HLL := hide hLL
 have hi0 : (0 : Int) ≤ (i : Int) := by omega
 have hi1 : (i : Int) < (LL : Int) := by omega
 have hi2 : (i : Int) + 1 < (LL : Int) := by omega
 have hi3 : (0 : Int) ≤ (i : Int) + 1 := by omega
 have hw1 := IntWalk.i64_in ((i : Int) + 1) (by omega)
 have hw2 := IntWalk.i64_in ((i : Int) + 2) (by omega)
 have hn1 : ((i : Int) + 1).toNat = i + 1 := by omega
 have hn2 : ((i : Int) + 2).toNat = i + 2 := by omega
 obtain ⟨V, hV⟩ : ∃ V, handF x y z = V := ⟨_, rfl⟩
 rw [hV]
 have HV := hide hV
 clear h hx hy hz hLL hV
 go_enter Try.func123, Try.ntmps123
 go_upto_region 1 with fail
 go_region
 · have HA := hide (show Blk (((w.alloc (.cells #[.int .i64 x.k, .int .i64 x.a, .int .i64 x.b, .int .i64 x.c, .int .i64 x.d, .int .i64 x.n] 49)).alloc (.cells #[.int .i64 y.k, .int .i64 y.a, .int .i64 y.b, .int .i64 y.c, .int .i64 y.d, .int .i64 y.n] 49)).drew) w.heap.size 49 #[.int .i64 x.k, .int .i64 x.a, .int .i64 x.b, .int .i64 x.c, .int .i64 x.d, .int .i64 x.n] from ((Blk.new w 49 #[.int .i64 x.k, .int .i64 x.a, .int .i64 x.b, .int .i64 x.c, .int .i64 x.d, .int .i64 x.n]).alloc _).drew)
   have HB := hide (show Blk (((w.alloc (.cells #[.int .i64 x.k, .int .i64 x.a, .int .i64 x.b, .int .i64 x.c, .int .i64 x.d, .int .i64 x.n] 49)).alloc (.cells #[.int .i64 y.k, .int .i64 y.a, .int .i64 y.b, .int .i64 y.c, .int .i64 y.d, .int .i64 y.n] 49)).drew) (w.heap.size + 1) 49 #[.int .i64 y.k, .int .i64 y.a, .int .i64 y.b, .int .i64 y.c, .int .i64 y.d, .int .i64 y.n] from by have h9 := (Blk.new (w.alloc (.cells #[.int .i64 x.k, .int .i64 x.a, .int .i64 x.b, .int .i64 x.c, .int .i64 x.d, .int .i64 x.n] 49)) 49 #[.int .i64 y.k, .int .i64 y.a, .int .i64 y.b, .int .i64 y.c, .int .i64 y.d, .int .i64 y.n]).drew; rwa [show (w.alloc (.cells #[.int .i64 x.k, .int .i64 x.a, .int .i64 x.b, .int .i64 x.c, .int .i64 x.d, .int .i64 x.n] 49)).heap.size = w.heap.size + 1 by simp] at h9)
   have HBW := hide (show Below w.heap.size w (((w.alloc (.cells #[.int .i64 x.k, .int .i64 x.a, .int .i64 x.b, .int .i64 x.c, .int .i64 x.d, .int .i64 x.n] 49)).alloc (.cells #[.int .i64 y.k, .int .i64 y.a, .int .i64 y.b, .int .i64 y.c, .int .i64 y.d, .int .i64 y.n] 49)).drew) from (((Below.refl _ w).alloc (Nat.le_refl _) _).alloc (by simp) _).drew)
   generalize ((w.alloc (.cells #[.int .i64 x.k, .int .i64 x.a, .int .i64 x.b, .int .i64 x.c, .int .i64 x.d, .int .i64 x.n] 49)).alloc (.cells #[.int .i64 y.k, .int .i64 y.a, .int .i64 y.b, .int .i64 y.c, .int .i64 y.d, .int .i64 y.n] 49)).drew = W1 at HA HB HBW
   obtain ⟨g1, hg1⟩ : ∃ g, w.heap.size = g := ⟨_, rfl⟩
   obtain ⟨g2, hg2⟩ : ∃ g, w.heap.size + 1 = g := ⟨_, rfl⟩
   rw [hg2] at HB ⊢
   rw [hg1] at HA HBW hg2 ⊢
   obtain ⟨z0, z1, z2, z3, z4, z5, hgl1⟩ := blk6x HA.out
   obtain ⟨v0, v1, v2, v3, v4, v5, hgl2⟩ := blk6x HB.out
   by_cases k10 : y.k = 10
   · have hk10 : (y.k == 10) = true := by simp [k10]
     have HF := hide (show V = (⟨13, x.a, x.b, y.a, y.b, 0⟩, 2) by rw [← HV.out]; simp [handF, k10])
     clear k10
     go_wp2_with fail
     go_ret2
     rw [HF.out]
     exact ⟨_, rfl, ro_new W1 ⟨13, x.a, x.b, y.a, y.b, 0⟩, by rw [hg1]; exact HBW.out.alloc (by have := HBW.out.size; omega) _⟩
   have hk10 : (y.k == 10) = false := by simp [k10]
   by_cases k12 : y.k = 12
   · have hk12 : (y.k == 12) = true := by simp [k12]
     have HF := hide (show V = (⟨16, x.a, x.b, 0, 0, 0⟩, 2) by rw [← HV.out]; simp [handF, k10, k12])
     clear k10 k12
     go_wp2_with fail
     go_ret2
     rw [HF.out]
     exact ⟨_, rfl, ro_new W1 ⟨16, x.a, x.b, 0, 0, 0⟩, by rw [hg1]; exact HBW.out.alloc (by have := HBW.out.size; omega) _⟩
   have hk12 : (y.k == 12) = false := by simp [k12]
   have hzl := HZL.out k10 k12
   have hzr := (HZ.out k10 k12).below (by rw [add_block]; exact hab) (by first | exact HBW.out | (rw [hg1]; exact HBW.out))
   obtain ⟨s0, s1, s2, s3, s4, s5⟩ := hzr
   have hi4 : (i : Int) + 2 < (LL : Int) := by omega
   have hi5 : (0 : Int) ≤ (i : Int) + 2 := by omega
   clear hzl
   by_cases kz : z.k = 12
   · have hkz : (z.k == 12) = true := by simp [kz]
     have HF := hide (show V = (⟨15, x.a, x.b, 0, 0, 0⟩, 3) by rw [← HV.out]; simp [handF, k10, k12, kz])
     clear k10 k12 kz
     go_wp2_with fail
     go_ret2
     rw [HF.out]
     exact ⟨_, rfl, ro_new W1 ⟨15, x.a, x.b, 0, 0, 0⟩, by rw [hg1]; exact HBW.out.alloc (by have := HBW.out.size; omega) _⟩
   have hkz : (z.k == 12) = false := by simp [kz]
   have HF := hide (show V = (⟨14, x.a, x.b, z.a, z.b, 0⟩, 3) by rw [← HV.out]; simp [handF, k10, k12, kz])
   clear k10 k12 kz
   have f0 := HB.out.frozen 0
   have f1 := HB.out.frozen 1
   have f2 := HB.out.frozen 2
   have f3 := HB.out.frozen 3
   have f4 := HB.out.frozen 4
   have f5 := HB.out.frozen 5
   go_upto_region 9 with fail
   obtain ⟨hst, hso⟩ := box_store HB.out z
   have HX2 := hide (HA.out.only hso (by omega))
   have HY2 := hide hst
   have HB2 := hide (HBW.out.trans (hso.below (B := g1) (fun k hk => by omega) (by have := HBW.out.size; omega)))
   generalize (((((W1.setCell ⟨g2, 0, none⟩ (.int .i64 z.k)).setCell ⟨g2, 1, none⟩ (.int .i64 z.a)).setCell ⟨g2, 2, none⟩ (.int .i64 z.b)).setCell ⟨g2, 3, none⟩ (.int .i64 z.c)).setCell ⟨g2, 4, none⟩ (.int .i64 z.d)).setCell ⟨g2, 5, none⟩ (.int .i64 z.n) = W2 at HX2 HY2 HB2
   clear hst hso z0 z1 z2 z3 z4 z5 hgl1 v0 v1 v2 v3 v4 v5 hgl2
   obtain ⟨z0, z1, z2, z3, z4, z5, hgl1⟩ := blk6x HX2.out
   obtain ⟨v0, v1, v2, v3, v4, v5, hgl2⟩ := blk6x HY2.out
   go_wp2_with fail
   go_ret2
   rw [HF.out]
   exact ⟨_, rfl, ro_new W2 ⟨14, x.a, x.b, z.a, z.b, 0⟩, by rw [hg1]; exact HB2.out.alloc (by have := HB2.out.size; omega) _⟩
 · have HA := hide (show Blk (((w.alloc (.cells #[.int .i64 y.k, .int .i64 y.a, .int .i64 y.b, .int .i64 y.c, .int .i64 y.d, .int .i64 y.n] 49)).alloc (.cells #[.int .i64 x.k, .int .i64 x.a, .int .i64 x.b, .int .i64 x.c, .int .i64 x.d, .int .i64 x.n] 49)).drew) w.heap.size 49 #[.int .i64 y.k, .int .i64 y.a, .int .i64 y.b, .int .i64 y.c, .int .i64 y.d, .int .i64 y.n] from ((Blk.new w 49 #[.int .i64 y.k, .int .i64 y.a, .int .i64 y.b, .int .i64 y.c, .int .i64 y.d, .int .i64 y.n]).alloc _).drew)
   have HB := hide (show Blk (((w.alloc (.cells #[.int .i64 y.k, .int .i64 y.a, .int .i64 y.b, .int .i64 y.c, .int .i64 y.d, .int .i64 y.n] 49)).alloc (.cells #[.int .i64 x.k, .int .i64 x.a, .int .i64 x.b, .int .i64 x.c, .int .i64 x.d, .int .i64 x.n] 49)).drew) (w.heap.size + 1) 49 #[.int .i64 x.k, .int .i64 x.a, .int .i64 x.b, .int .i64 x.c, .int .i64 x.d, .int .i64 x.n] from by have h9 := (Blk.new (w.alloc (.cells #[.int .i64 y.k, .int .i64 y.a, .int .i64 y.b, .int .i64 y.c, .int .i64 y.d, .int .i64 y.n] 49)) 49 #[.int .i64 x.k, .int .i64 x.a, .int .i64 x.b, .int .i64 x.c, .int .i64 x.d, .int .i64 x.n]).drew; rwa [show (w.alloc (.cells #[.int .i64 y.k, .int .i64 y.a, .int .i64 y.b, .int .i64 y.c, .int .i64 y.d, .int .i64 y.n] 49)).heap.size = w.heap.size + 1 by simp] at h9)
   have HBW := hide (show Below w.heap.size w (((w.alloc (.cells #[.int .i64 y.k, .int .i64 y.a, .int .i64 y.b, .int .i64 y.c, .int .i64 y.d, .int .i64 y.n] 49)).alloc (.cells #[.int .i64 x.k, .int .i64 x.a, .int .i64 x.b, .int .i64 x.c, .int .i64 x.d, .int .i64 x.n] 49)).drew) from (((Below.refl _ w).alloc (Nat.le_refl _) _).alloc (by simp) _).drew)
   generalize ((w.alloc (.cells #[.int .i64 y.k, .int .i64 y.a, .int .i64 y.b, .int .i64 y.c, .int .i64 y.d, .int .i64 y.n] 49)).alloc (.cells #[.int .i64 x.k, .int .i64 x.a, .int .i64 x.b, .int .i64 x.c, .int .i64 x.d, .int .i64 x.n] 49)).drew = W1 at HA HB HBW
   obtain ⟨g1, hg1⟩ : ∃ g, w.heap.size = g := ⟨_, rfl⟩
   obtain ⟨g2, hg2⟩ : ∃ g, w.heap.size + 1 = g := ⟨_, rfl⟩
   rw [hg2] at HB ⊢
   rw [hg1] at HA HBW hg2 ⊢
   obtain ⟨z0, z1, z2, z3, z4, z5, hgl1⟩ := blk6x HA.out
   obtain ⟨v0, v1, v2, v3, v4, v5, hgl2⟩ := blk6x HB.out
   by_cases k10 : y.k = 10
   · have hk10 : (y.k == 10) = true := by simp [k10]
     have HF := hide (show V = (⟨13, x.a, x.b, y.a, y.b, 0⟩, 2) by rw [← HV.out]; simp [handF, k10])
     clear k10
     go_wp2_with fail
     go_ret2
     rw [HF.out]
     exact ⟨_, rfl, ro_new W1 ⟨13, x.a, x.b, y.a, y.b, 0⟩, by rw [hg1]; exact HBW.out.alloc (by have := HBW.out.size; omega) _⟩
   have hk10 : (y.k == 10) = false := by simp [k10]
   by_cases k12 : y.k = 12
   · have hk12 : (y.k == 12) = true := by simp [k12]
     have HF := hide (show V = (⟨16, x.a, x.b, 0, 0, 0⟩, 2) by rw [← HV.out]; simp [handF, k10, k12])
     clear k10 k12
     go_wp2_with fail
     go_ret2
     rw [HF.out]
     exact ⟨_, rfl, ro_new W1 ⟨16, x.a, x.b, 0, 0, 0⟩, by rw [hg1]; exact HBW.out.alloc (by have := HBW.out.size; omega) _⟩
   have hk12 : (y.k == 12) = false := by simp [k12]
   have hzl := HZL.out k10 k12
   have hzr := (HZ.out k10 k12).below (by rw [add_block]; exact hab) (by first | exact HBW.out | (rw [hg1]; exact HBW.out))
   obtain ⟨s0, s1, s2, s3, s4, s5⟩ := hzr
   have hi4 : (i : Int) + 2 < (LL : Int) := by omega
   have hi5 : (0 : Int) ≤ (i : Int) + 2 := by omega
   clear hzl
   by_cases kz : z.k = 12
   · have hkz : (z.k == 12) = true := by simp [kz]
     have HF := hide (show V = (⟨15, x.a, x.b, 0, 0, 0⟩, 3) by rw [← HV.out]; simp [handF, k10, k12, kz])
     clear k10 k12 kz
     go_wp2_with fail
     go_ret2
     rw [HF.out]
     exact ⟨_, rfl, ro_new W1 ⟨15, x.a, x.b, 0, 0, 0⟩, by rw [hg1]; exact HBW.out.alloc (by have := HBW.out.size; omega) _⟩
   have hkz : (z.k == 12) = false := by simp [kz]
   have HF := hide (show V = (⟨14, x.a, x.b, z.a, z.b, 0⟩, 3) by rw [← HV.out]; simp [handF, k10, k12, kz])
   clear k10 k12 kz
   have f0 := HA.out.frozen 0
   have f1 := HA.out.frozen 1
   have f2 := HA.out.frozen 2
   have f3 := HA.out.frozen 3
   have f4 := HA.out.frozen 4
   have f5 := HA.out.frozen 5
   go_upto_region 9 with fail
   obtain ⟨hst, hso⟩ := box_store HA.out z
   have HX2 := hide (HB.out.only hso (by omega))
   have HY2 := hide hst
   have HB2 := hide (HBW.out.trans (hso.below (B := g1) (fun k hk => by omega) (by have := HBW.out.size; omega)))
   generalize (((((W1.setCell ⟨g1, 0, none⟩ (.int .i64 z.k)).setCell ⟨g1, 1, none⟩ (.int .i64 z.a)).setCell ⟨g1, 2, none⟩ (.int .i64 z.b)).setCell ⟨g1, 3, none⟩ (.int .i64 z.c)).setCell ⟨g1, 4, none⟩ (.int .i64 z.d)).setCell ⟨g1, 5, none⟩ (.int .i64 z.n) = W2 at HX2 HY2 HB2
   clear hst hso z0 z1 z2 z3 z4 z5 hgl1 v0 v1 v2 v3 v4 v5 hgl2
   obtain ⟨z0, z1, z2, z3, z4, z5, hgl1⟩ := blk6x HX2.out
   obtain ⟨v0, v1, v2, v3, v4, v5, hgl2⟩ := blk6x HY2.out
   go_wp2_with fail
   go_ret2
   rw [HF.out]
   exact ⟨_, rfl, ro_new W2 ⟨14, x.a, x.b, z.a, z.b, 0⟩, by rw [hg1]; exact HB2.out.alloc (by have := HB2.out.size; omega) _⟩
end Go.Proofs.Ytdpokdcendgfeaa
