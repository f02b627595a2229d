/- Several texts in one: The walk of fold.expression, the other kinds. Conditions: those of each. -/
import Derived.Test.YtdpokdcendgfeaaW8
set_option linter.unusedSimpArgs false
set_option linter.unusedVariables false
set_option maxHeartbeats 80000000
set_option maxRecDepth 100000
namespace Go.Proofs.Ytdpokdcendgfeaa
open Go.RowKit
section
attribute [local go_sem] par Zah
theorem Zkr (w:World) (ad:Addr) (cl:Nat) (l:List Ac) (i:Nat) (x:Ac) (sp:List (Nat×Nat)) (hs9:List Ac) (h:Ro w ad cl l) (hs:Z7 l) (hx:l[i]? = some x) (hk:ZR l x.n.toNat (i+1)=some sp) (hhd:Zhc (sp.map (sub l)) hs9) (hn2:sp.length≤2) (hb:∀y ∈ hs9,ZN y=true → -1073741824≤y.a∧y.a≤1073741824) (hK:x.k≠28∧x.k≠29∧x.k≠30∧x.k≠31∧x.k≠32∧x.k≠33∧x.k≠34∧x.k≠37∧x.k≠38) :
 Calls Try.prog 75 #[.slice (some ad) l.length cl,.int .i64 (i:Int)] w fun en w'=>ZbJ w' en ((Zas x.k hs9).map fun y=>(1,some [y]))∧Below w.heap.size w w':=by
 have hil:=(gs_ hx).1;obtain ⟨ad9,e9,hab,hrow⟩:=Zq h.s hx;injection e9 with e9;subst e9;have HROW:=Za (show ZbM w (ad.add (i*6)) x from hrow);have HAB:=Za (show (ad.add (i*6)).block<w.heap.size by rw [Zl];exact hab);have HKD:=Za (fun (W:World) (hb:Below w.heap.size w W)=>ZeC W ad cl l i x sp (h.s.below hb) hs hx hk h.n h.m);have HIN:=Za (show ∀r ∈ sp,r.1<r.2∧r.2≤l.length from fun r hr=>by have:=(ZaJ l _ _ _ hk (by omega)).2 r hr;exact ⟨this.2.1,this.2.2⟩);have HRO:=Za h;have HSM:=Za hs.1;obtain ⟨LL,hLL⟩:∃n,l.length=n:=⟨_,rfl⟩;rw [hLL] at HKD hil;rw [hLL];have HLL:=Za hLL;have hiI:(i:Int)<(LL:Int):=by omega
 have hi0:(0:Int)≤(i:Int):=by omega
 have HHD:=Za hhd;have HN2:=Za hn2;have HB9:=Za hb;have hk28:(x.k == 28)=false:=by simp [hK]
 have hk29:(x.k == 29)=false:=by simp [hK]
 have hk30:(x.k == 30)=false:=by simp [hK]
 have hk31:(x.k == 31)=false:=by simp [hK]
 have hk32:(x.k == 32)=false:=by simp [hK]
 have hk33:(x.k == 33)=false:=by simp [hK]
 have hk34:(x.k == 34)=false:=by simp [hK]
 have hk37:(x.k == 37)=false:=by simp [hK]
 have hk38:(x.k == 38)=false:=by simp [hK]
 obtain ⟨V,hV⟩:∃V,Zas x.k hs9=V:=⟨_,rfl⟩;rw [hV];have HV:=Za hV;clear h hs hx hk hrow hLL hhd hn2 hb hK hV;go_enter Try.func75,Try.ntmps75;go_upto_region 1 with fail;refine ZB (JV w (K17 w (.slice (some ad) LL cl) (.int .i64 (i:Int)) (.pointer (some (ad.add (i*6)))) (.agg #[.int .i64 x.k,.int .i64 x.a,.int .i64 x.b,.int .i64 x.c,.int .i64 x.d,.int .i64 x.n]) #[.int .i64 x.k,.int .i64 x.a,.int .i64 x.b,.int .i64 x.c,.int .i64 x.d,.int .i64 x.n] sp.length (sp.map (spv ad)))) [[],[],[0,1],[0,1,2],[],[],[4,5],[],[0,1,2,3,4,5,6,7],[0,1,2,3,4,5,6,7,8]] (by kernel_rfl) (by kernel_rfl) (fun vs=>JV.start vs (fun vs i w hi=>by match i,hi with | _+10,_=>trivial)) (fun vs=>?_);refine Zb rfl (fun S w9 hS hA hD hJ R hR=>?_) (fun K hK=>?_)
 · go_simp;exact hR _ _ (hJ.step hJ.b (fun i hij hi hk=>hk.keep br_ hij (fun _=>by decide)) Ze)
 go_simp;refine hK _ ?_;clear hK K;refine Zb rfl (fun S w9 hS hA hD hJ R hR=>?_) (fun K hK=>?_)
 · go_simp;exact hR _ _ (hJ.step hJ.b (fun i hij hi hk=>hk.keep br_ hij (fun _=>by decide)) Ze)
 go_simp;refine hK _ ?_;clear hK K;refine Zb rfl (fun S w9 hS hA hD hJ R hR=>?_) (fun K hK=>?_)
 · have k0:vs 0=_:=hJ.k 0 (hA 0 (by decide));have k1:vs 1=_:=hJ.k 1 (hA 1 (by decide));simp only [k0,k1];go_simp;exact hR _ _ (hJ.step hJ.b (fun i hij hi hk=>hk.keep br_ hij (fun _=>by decide)) Ze)
 go_simp;refine hK _ ?_;clear hK K;refine Zb rfl (fun S w9 hS hA hD hJ R hR=>?_) (fun K hK=>?_)
 · have k2:vs 2=_:=hJ.k 2 (hA 2 (by decide));obtain ⟨q0,q1,q2,q3,q4,q5⟩:=HROW.out.below HAB.out hJ.b;simp only [k2];go_simp;exact hR _ _ (hJ.step hJ.b (fun i hij hi hk=>hk.keep br_ hij (fun _=>by decide)) Ze)
 go_simp;refine hK _ ?_;clear hK K;refine Zb rfl (fun S w9 hS hA hD hJ R hR=>?_) (fun K hK=>?_)
 · go_simp;exact hR _ _ (hJ.step hJ.b (fun i hij hi hk=>hk.keep br_ hij (fun _=>by decide)) Ze)
 go_simp;refine hK _ ?_;clear hK K;refine Zb rfl (fun S w9 hS hA hD hJ R hR=>?_) (fun K hK=>?_)
 · go_simp;exact hR _ _ (hJ.step hJ.b (fun i hij hi hk=>hk.keep br_ hij (fun _=>by decide)) Ze)
 go_simp;refine hK _ ?_;clear hK K;refine Zb rfl (fun S w9 hS hA hD hJ R hR=>?_) (fun K hK=>?_)
 · have k4:vs 4=_:=hJ.k 4 (hA 4 (by decide));have k5:vs 5=_:=hJ.k 5 (hA 5 (by decide));refine pc_ Zhb (kd_ (HKD.out w9 hJ.b) fun u _ e2 e3=>hR _ _ (hJ.step (hJ.b.trans (e3.mono hJ.b.size)) (fun i hij hi hk=>hk.keep e3 hij (fun _=>by decide)) (by show World.ownsRow _ _ _ _ (upn vs 6 u 6) _ _;rw [Ze];exact Zv e2 hJ.b.size))) rfl ?_;simp [Act.eval,Act.put,k4,k5]
 go_simp;refine hK _ ?_;clear hK K;refine Zb rfl (fun S w9 hS hA hD hJ R hR=>?_) (fun K hK=>?_)
 · have h8:S 8=false:=hD 8 (by decide) (by decide);go_simp;exact hR _ _ (hJ.step (hJ.b.alloc hJ.b.size _) (fun i hij hi hk=>hk.keep ((Below.refl _ w9).alloc lr_ _) hij (fun e=>by subst e;rw [h8] at hi;cases hi)) ⟨w9.heap.size,_,Ze,hJ.b.size,Blk.new w9 49 _,rfl⟩)
 go_simp;refine hK _ ?_;clear hK K;refine Zb rfl (fun S w9 hS hA hD hJ R hR=>?_) (fun K hK=>?_)
 · obtain ⟨g,cs,k7,hg,hblk,hsz⟩:=hJ.k 7 (hA 7 (by decide));have k3:vs 3=_:=hJ.k 3 (hA 3 (by decide))
   obtain ⟨u0,u1,u2,u3,u4,u5,rfl⟩:∃u0 u1 u2 u3 u4 u5,cs=#[u0,u1,u2,u3,u4,u5]:=by
    obtain ⟨l⟩:=cs
    match l,hsz with
    | [u0,u1,u2,u3,u4,u5],_=>exact ⟨u0,u1,u2,u3,u4,u5,rfl⟩
   have hst:=Zcs hblk x;have h9:S 9=false:=hD 9 (by decide) (by decide);have hfin:=hR undef _ (hJ.step (j:=8) (u:=undef) (hJ.b.trans (hst.2.below (fun k hk=>by rw [hk];exact hg) hJ.b.size)) (fun i hij hi hk=>K17.only hk hst.2 hij (fun g2 e=>by rw [k7] at e;cases e;exact ⟨rfl,_,hst.1,rfl⟩) hblk) ⟨g,(Zd (by decide)).trans k7,hg,hst.1⟩);obtain ⟨z0,z1,z2,z3,z4,z5,_⟩:=Zk hblk;have f0:=hblk.frozen 0;have f1:=hblk.frozen 1;have f2:=hblk.frozen 2;have f3:=hblk.frozen 3;have f4:=hblk.frozen 4;have f5:=hblk.frozen 5;simp only [k3,k7];go_simp;exact hfin
 go_simp;refine hK _ ?_;clear hK K;refine Zb rfl (fun S w9 hS hA hD hJ R hR=>?_) (fun K hK=>?_)
 · have k6:w9.ownsRow w.heap.size 26 1 (vs 6) _ _:=hJ.k 6 (hA 6 (by decide));go_simp;exact hR _ _ (hJ.step hJ.b (fun i hij hi hk=>hk.keep br_ hij (fun _=>by decide)) (by show World.ownsRow _ _ _ _ (upn vs 9 (vs 6) 9) _ _;rw [Ze];exact k6))
 go_simp;refine hK _ ?_;clear hK K;refine Z2 (fun W1 hJ=>?_);obtain ⟨gx,k7,hgx,hbx⟩:=hJ.k 8 rfl;have k9:W1.ownsRow w.heap.size 26 1 (vs 9) _ _:=hJ.k 9 rfl;have HBW:=Za hJ.b;have HKO:=Za k9;have HBX:=Za hbx;have HGX:=Za hgx;clear hJ k9 hbx hgx;simp only [k7];clear k7;have hkm:KsM W1 (vs 9) (sp.map (sub l)):=ZeY HRO.out HBW.out HIN.out HKO.out;have HKM:=Za hkm;have hcn:=Zei W1 x (vs 9) _ hs9 HKM.out HHD.out (by rw [List.length_map];exact HN2.out) HB9.out (fun e=>by obtain ⟨oa,c,rs,e9,h9⟩:=HKM.out;rw [e] at e9;exact ⟨oa,c,e9⟩);simp only [Ac.val] at hcn;rw [HV.out] at hcn;have HCN:=Za hcn;clear hcn hkm;obtain ⟨y0,y1,y2,y3,y4,y5,hbx⟩:=Zk HBX.out
 cases V with
 | some y =>
  go_wp2_with (go_at_call 115;with_reducible refine HCN.out.mono ?_;rintro en w2 ⟨hc9,hb2⟩;simp only [ZfB] at hc9;obtain ⟨aq,rfl,hrq⟩:=hc9;have HRQ:=Za hrq;have HB2:=Za hb2;clear hrq hb2);go_ret3;exact ⟨⟨_,rfl,HRQ.out.rin⟩,HBW.out.trans (HB2.out.mono HBW.out.size)⟩
 | none =>
  go_upto_region 5 with (go_at_call 115;with_reducible refine HCN.out.mono ?_;rintro en W3 ⟨hc9,hb2⟩;simp only [ZfB] at hc9;subst hc9;have HB2:=Za hb2;clear hb2);have HBW3:=Za (HBW.out.trans (HB2.out.mono HBW.out.size));have HX3:=Za (HBX.out.below HB2.out HBX.out.lt);clear y0 y1 y2 y3 y4 y5 hbx;obtain ⟨y0,y1,y2,y3,y4,y5,hbx⟩:=Zk HX3.out;go_wp2_with fail;go_ret3;exact ⟨rfl,HBW3.out⟩
theorem Zku (w:World) (ad:Addr) (cl:Nat) (l:List Ac) (i:Nat) (x:Ac) (r0:Nat×Nat) (h0:Ac) (h:Ro w ad cl l) (hs:Z7 l) (hx:l[i]? = some x) (hk:ZR l x.n.toNat (i+1)=some [r0]) (hh0:(sub l r0)[0]? = some h0) (hb:∀y ∈ [h0],ZN y=true → -1073741824≤y.a∧y.a≤1073741824) (K:Int) (hK:x.k=K) (hKs:K=28∨K=29) (h9x:h0.k=K→2≤(sub l r0).length) :
 Calls Try.prog 75 #[.slice (some ad) l.length cl,.int .i64 (i:Int)] w fun en w'=>ZbJ w' en (Za5 K [sub l r0] [h0])∧Below w.heap.size w w':=by
 have hil:=(gs_ hx).1;obtain ⟨ad9,e9,hab,hrow⟩:=Zq h.s hx;injection e9 with e9;subst e9;have HROW:=Za (show ZbM w (ad.add (i*6)) x from hrow);have HAB:=Za (show (ad.add (i*6)).block<w.heap.size by rw [Zl];exact hab);have HKD:=Za (fun (W:World) (hb:Below w.heap.size w W)=>ZeC W ad cl l i x [r0] (h.s.below hb) hs hx hk h.n h.m);have HIN:=Za (show ∀r ∈ [r0],r.1<r.2∧r.2≤l.length from fun r hr=>by have:=(ZaJ l _ _ _ hk (by omega)).2 r hr;exact ⟨this.2.1,this.2.2⟩);have HRO:=Za h;have HSM:=Za hs.1;obtain ⟨sp,hsp⟩:∃sp,[r0]=sp:=⟨_,rfl⟩;have HSP:=Za hsp;rw [hsp] at HKD;obtain ⟨LL,hLL⟩:∃n,l.length=n:=⟨_,rfl⟩;rw [hLL] at HKD hil;rw [hLL];have HLL:=Za hLL;have hiI:(i:Int)<(LL:Int):=by omega
 have hi0:(0:Int)≤(i:Int):=by omega
 have HKK:=Za hK;have HKS:=Za hKs;have H0:=Za hh0;have HB9:=Za hb;obtain ⟨k0,hk0⟩:∃k,sub l r0=k:=⟨_,rfl⟩;rw [hk0] at H0;rw [hk0];have HLK:=Za (show k0.length≤262144 by rw [←hk0];have h7:=HIN.out r0 (by simp);rw [ZaL h7.2];have:=HSM.out;omega);have HK01:=Za (hk0);obtain ⟨V,hV⟩:∃V,Za5 K [k0] [h0]=V:=⟨_,rfl⟩;rw [hV];have HV:=Za hV;have HX9:=Za h9x
 try rw [hk0] at HX9
 clear h hs hx hk hrow hLL hsp hK hKs hh0 hb hk0 hV h9x;go_enter Try.func75,Try.ntmps75;go_upto_region 1 with fail;refine ZB (JV w (K17 w (.slice (some ad) LL cl) (.int .i64 (i:Int)) (.pointer (some (ad.add (i*6)))) (.agg #[.int .i64 x.k,.int .i64 x.a,.int .i64 x.b,.int .i64 x.c,.int .i64 x.d,.int .i64 x.n]) #[.int .i64 x.k,.int .i64 x.a,.int .i64 x.b,.int .i64 x.c,.int .i64 x.d,.int .i64 x.n] sp.length (sp.map (spv ad)))) [[],[],[0,1],[0,1,2],[],[],[4,5],[],[0,1,2,3,4,5,6,7],[0,1,2,3,4,5,6,7,8]] (by kernel_rfl) (by kernel_rfl) (fun vs=>JV.start vs (fun vs i w hi=>by match i,hi with | _+10,_=>trivial)) (fun vs=>?_);refine Zb rfl (fun S w9 hS hA hD hJ R hR=>?_) (fun K hK=>?_)
 · go_simp;exact hR _ _ (hJ.step hJ.b (fun i hij hi hk=>hk.keep br_ hij (fun _=>by decide)) Ze)
 go_simp;refine hK _ ?_;clear hK K;refine Zb rfl (fun S w9 hS hA hD hJ R hR=>?_) (fun K hK=>?_)
 · go_simp;exact hR _ _ (hJ.step hJ.b (fun i hij hi hk=>hk.keep br_ hij (fun _=>by decide)) Ze)
 go_simp;refine hK _ ?_;clear hK K;refine Zb rfl (fun S w9 hS hA hD hJ R hR=>?_) (fun K hK=>?_)
 · have k0:vs 0=_:=hJ.k 0 (hA 0 (by decide));have k1:vs 1=_:=hJ.k 1 (hA 1 (by decide));simp only [k0,k1];go_simp;exact hR _ _ (hJ.step hJ.b (fun i hij hi hk=>hk.keep br_ hij (fun _=>by decide)) Ze)
 go_simp;refine hK _ ?_;clear hK K;refine Zb rfl (fun S w9 hS hA hD hJ R hR=>?_) (fun K hK=>?_)
 · have k2:vs 2=_:=hJ.k 2 (hA 2 (by decide));obtain ⟨q0,q1,q2,q3,q4,q5⟩:=HROW.out.below HAB.out hJ.b;simp only [k2];go_simp;exact hR _ _ (hJ.step hJ.b (fun i hij hi hk=>hk.keep br_ hij (fun _=>by decide)) Ze)
 go_simp;refine hK _ ?_;clear hK K;refine Zb rfl (fun S w9 hS hA hD hJ R hR=>?_) (fun K hK=>?_)
 · go_simp;exact hR _ _ (hJ.step hJ.b (fun i hij hi hk=>hk.keep br_ hij (fun _=>by decide)) Ze)
 go_simp;refine hK _ ?_;clear hK K;refine Zb rfl (fun S w9 hS hA hD hJ R hR=>?_) (fun K hK=>?_)
 · go_simp;exact hR _ _ (hJ.step hJ.b (fun i hij hi hk=>hk.keep br_ hij (fun _=>by decide)) Ze)
 go_simp;refine hK _ ?_;clear hK K;refine Zb rfl (fun S w9 hS hA hD hJ R hR=>?_) (fun K hK=>?_)
 · have k4:vs 4=_:=hJ.k 4 (hA 4 (by decide));have k5:vs 5=_:=hJ.k 5 (hA 5 (by decide));refine pc_ Zhb (kd_ (HKD.out w9 hJ.b) fun u _ e2 e3=>hR _ _ (hJ.step (hJ.b.trans (e3.mono hJ.b.size)) (fun i hij hi hk=>hk.keep e3 hij (fun _=>by decide)) (by show World.ownsRow _ _ _ _ (upn vs 6 u 6) _ _;rw [Ze];exact Zv e2 hJ.b.size))) rfl ?_;simp [Act.eval,Act.put,k4,k5]
 go_simp;refine hK _ ?_;clear hK K;refine Zb rfl (fun S w9 hS hA hD hJ R hR=>?_) (fun K hK=>?_)
 · have h8:S 8=false:=hD 8 (by decide) (by decide);go_simp;exact hR _ _ (hJ.step (hJ.b.alloc hJ.b.size _) (fun i hij hi hk=>hk.keep ((Below.refl _ w9).alloc lr_ _) hij (fun e=>by subst e;rw [h8] at hi;cases hi)) ⟨w9.heap.size,_,Ze,hJ.b.size,Blk.new w9 49 _,rfl⟩)
 go_simp;refine hK _ ?_;clear hK K;refine Zb rfl (fun S w9 hS hA hD hJ R hR=>?_) (fun K hK=>?_)
 · obtain ⟨g,cs,k7,hg,hblk,hsz⟩:=hJ.k 7 (hA 7 (by decide));have k3:vs 3=_:=hJ.k 3 (hA 3 (by decide))
   obtain ⟨u0,u1,u2,u3,u4,u5,rfl⟩:∃u0 u1 u2 u3 u4 u5,cs=#[u0,u1,u2,u3,u4,u5]:=by
    obtain ⟨l⟩:=cs
    match l,hsz with
    | [u0,u1,u2,u3,u4,u5],_=>exact ⟨u0,u1,u2,u3,u4,u5,rfl⟩
   have hst:=Zcs hblk x;have h9:S 9=false:=hD 9 (by decide) (by decide);have hfin:=hR undef _ (hJ.step (j:=8) (u:=undef) (hJ.b.trans (hst.2.below (fun k hk=>by rw [hk];exact hg) hJ.b.size)) (fun i hij hi hk=>K17.only hk hst.2 hij (fun g2 e=>by rw [k7] at e;cases e;exact ⟨rfl,_,hst.1,rfl⟩) hblk) ⟨g,(Zd (by decide)).trans k7,hg,hst.1⟩);obtain ⟨z0,z1,z2,z3,z4,z5,_⟩:=Zk hblk;have f0:=hblk.frozen 0;have f1:=hblk.frozen 1;have f2:=hblk.frozen 2;have f3:=hblk.frozen 3;have f4:=hblk.frozen 4;have f5:=hblk.frozen 5;simp only [k3,k7];go_simp;exact hfin
 go_simp;refine hK _ ?_;clear hK K;refine Zb rfl (fun S w9 hS hA hD hJ R hR=>?_) (fun K hK=>?_)
 · have k6:w9.ownsRow w.heap.size 26 1 (vs 6) _ _:=hJ.k 6 (hA 6 (by decide));go_simp;exact hR _ _ (hJ.step hJ.b (fun i hij hi hk=>hk.keep br_ hij (fun _=>by decide)) (by show World.ownsRow _ _ _ _ (upn vs 9 (vs 6) 9) _ _;rw [Ze];exact k6))
 go_simp;refine hK _ ?_;clear hK K;refine Z2 (fun W1 hJ=>?_);obtain ⟨gx,k7,hgx,hbx⟩:=hJ.k 8 rfl;have k9:W1.ownsRow w.heap.size 26 1 (vs 9) _ _:=hJ.k 9 rfl;have HBW:=Za hJ.b;have HKO:=Za k9;have HBX:=Za hbx;have HGX:=Za hgx;clear hJ k9 hbx hgx;simp only [k7];clear k7;have hkm:KsM W1 (vs 9) [k0]:=by have h9:=ZeY HRO.out HBW.out (sp:=sp) (by rw [←HSP.out];exact HIN.out) HKO.out;rw [←HSP.out] at h9;simp only [List.map_cons,List.map_nil,HK01.out] at h9;exact h9
 have HKM:=Za hkm;obtain ⟨ak,ck,e9,hakb,hck,hxk⟩:=hkm.at_ (by simp);simp only [List.length_cons,List.length_nil,Nat.zero_add,Nat.reduceAdd] at e9 hck;have p0:=(gs_ H0.out).1;obtain ⟨a0,c0,qk0,rk0⟩:=hxk 0 k0 rfl p0;rw [show ak.add 0=ak by simp [Addr.add]] at qk0
 have hcn:=Zei W1 x (vs 9) [k0] [h0] HKM.out ⟨rfl,fun j k y e1 e2=>by
  match j with
  | 0=>simp at e1 e2;subst e1 e2;exact H0.out
  | j+1=>simp at e1⟩ (by simp) HB9.out (fun e=>by cases e)
 have hkm2:=HKM.out;rw [e9] at hkm2;have HKM2:=Za hkm2;clear hkm2;rw [e9] at hcn;simp only [Ac.val] at hcn;simp only [e9];rw [HKK.out] at hcn;have HCN:=Za hcn;have RK0:=Za rk0;obtain ⟨L0,hL0⟩:∃n,k0.length=n:=⟨_,rfl⟩;rw [hL0] at qk0 p0;have HL0:=Za hL0;have HQ0:=Za qk0;have hp0:(0:Int)<(L0:Int):=by omega
 clear hcn hxk hkm e9 rk0 qk0 hL0;obtain ⟨y0,y1,y2,y3,y4,y5,hbx⟩:=Zk HBX.out;rw [HKK.out] at y0
 cases hcv:Zas K [h0] with
 | some y =>
  rw [hcv] at HCN;have HE:=Za (show V=some (1,some [y]) by rw [←HV.out];unfold Za5;rw [hcv]);clear hcv;go_wp2_with (go_at_call 115;with_reducible refine HCN.out.mono ?_;rintro en w2 ⟨hc9,hb2⟩;simp only [ZfB] at hc9;obtain ⟨aq,rfl,hrq⟩:=hc9;have HRQ:=Za hrq;have HB2:=Za hb2;clear hrq hb2);go_ret3;rw [HE.out];exact ⟨⟨_,rfl,HRQ.out.rin⟩,HBW.out.trans (HB2.out.mono HBW.out.size)⟩
 | none =>
  rw [hcv] at HCN;have HE:=Za (show V=if ((K=28∨K=29)∧h0.k=K) then some (4,some (k0.drop 1)) else none by rw [←HV.out];unfold Za5;rw [hcv]);clear hcv;go_upto_region 5 with (go_at_call 115;with_reducible refine HCN.out.mono ?_;rintro en W3 ⟨hc9,hb2⟩;simp only [ZfB] at hc9;subst hc9;have HB2:=Za hb2;clear hb2);have HBW3:=Za (HBW.out.trans (HB2.out.mono HBW.out.size));have HX3:=Za (HBX.out.below HB2.out HBX.out.lt);clear y0 y1 y2 y3 y4 y5 hbx;obtain ⟨y0,y1,y2,y3,y4,y5,hbx⟩:=Zk HX3.out;rw [HKK.out] at y0;have qk0:=(HB2.out.cell (p:=ak) hakb).trans HQ0.out;obtain ⟨hd00,hd01,hab0⟩:=Zgl (RK0.out.below HB2.out) (by rw [HL0.out];exact p0) H0.out
  by_cases hkk:h0.k=K
  · have hkb:(h0.k == K)=true:=by simp [hkk]
    have HE2:=Za (show V=some (4,some (k0.drop 1)) by rw [HE.out,if_pos ⟨HKS.out,hkk⟩]);have hl2:=HX9.out hkk;rw [HL0.out] at hl2;have hl2I:(1:Int)≤(L0:Int):=by omega
    have hcc:¬c0=1:=by have:=RK0.out.n;rw [HL0.out] at this;omega
    have hcI:(L0:Int)≤(c0:Int):=by have:=RK0.out.n;rw [HL0.out] at this;omega
    have HD1:=Za (Zfp (RK0.out.below HB2.out) (by rw [HL0.out];exact hl2));clear hkk;rcases HKS.out with rfl | rfl
    all_goals
     go_wp2_with fail;go_quiet (fail);go_wp2_with fail;go_ret3;refine ⟨?_,Zc HBW3.out _⟩;rw [HE2.out];simp only [hcc,if_false];exact ⟨_,rfl,(HD1.out.below (Zc br_ _)).rinN (by rw [List.length_drop,HL0.out])⟩
  · have hkb:(h0.k == K)=false:=by simp [hkk]
    have HE2:=Za (show V=none by rw [HE.out,if_neg (fun h=>hkk h.2)]);clear hkk;rcases HKS.out with rfl | rfl
    all_goals
     go_wp2_with fail;go_ret3;exact ⟨by rw [HE2.out];rfl,HBW3.out⟩
end
end Go.Proofs.Ytdpokdcendgfeaa
