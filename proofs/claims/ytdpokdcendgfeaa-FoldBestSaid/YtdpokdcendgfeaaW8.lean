/- Several texts in one: The walk of fold.expression, by kinds. Conditions: those of each. -/
import Derived.Test.YtdpokdcendgfeaaW7
set_option linter.unusedSimpArgs false
set_option linter.unusedVariables false
set_option maxHeartbeats 80000000
set_option maxRecDepth 100000
namespace Go.Proofs.Ytdpokdcendgfeaa
open Go.RowKit
section
attribute [local go_sem] par Zah
def ZaO (k:Int) (k0 k1:List Ac) (h0 h1:Ac):Option (Nat×Option (List Ac)) :=
 if k=37∨k=38 then ZcB k k0 k1 h0 h1
 else if k=32 then (if ZaX h0 0 then some (5,some k1) else if ZaX h1 0 then some (5,some k0) else none)
 else if k=33 then (if ZaX h1 0 then some (5,some k0) else none)
 else if k=30 then (if ZaX h0 1 then some (5,some k1) else if ZaX h1 1 then some (5,some k0) else if (ZaX h0 0&&ZK k1)||(ZaX h1 0&&ZK k0) then some (6,some [ZaQ 0]) else none)
 else if k=31 then (if ZaX h1 1 then some (5,some k0) else none)
 else if k=34 then (if h0.k=20 then (if h0.a=1 then some (7,some k1) else some (7,some ((⟨29,0,0,0,0,0⟩:Ac).kid 1::k1)))
  else if h1.k=20 then (if h1.a=1 then some (7,some k0) else some (7,some ((⟨29,0,0,0,0,0⟩:Ac).kid 1::k0))) else none)
 else none
def Za5 (k:Int) (ks:List (List Ac)) (hs:List Ac):Option (Nat×Option (List Ac)) :=
 match Zas k hs with
 | some y=>some (1,some [y])
 | none=>match ks,hs with
  | [k0,k1],[h0,h1]=>ZaO k k0 k1 h0 h1
  | [k0],[h0]=>if (k=28∨k=29)∧h0.k=k then some (4,some (k0.drop 1)) else none
  | _,_=>none
theorem ZbJ.get {w:World} {en:Ending} {o:Option (Nat×Option (List Ac))} (h:ZbJ w en o):∃n v b,en=.returned (.tuple #[.int .i64 n,v,.bool b])∧ZbJ w (.returned (.tuple #[.int .i64 n,v,.bool b])) o:=by
 match o,h with
 | none,h =>
  have h2:en=.returned (.tuple #[.int .i64 0,.slice none 0 0,.bool false]):=h;subst h2;exact ⟨_,_,_,rfl,h⟩
 | some (n,o),h =>
  obtain ⟨v,rfl,h2⟩:=h;exact ⟨_,_,_,rfl,v,rfl,h2⟩
theorem ZdA {w:World} {a:Addr} {c n:Nat} {l:List Ac} {x:Ac} (h:Ro w a c l) (hn:l.length=n) (hx:l[0]? = some x) (m:Int) {b:Bool} (hb:ZaX x m=b) (W:World) (hW:Below w.heap.size w W) :
 Calls Try.prog 117 #[.slice (some a) n c,.int .i64 m] W fun en w'=>en=.returned (.bool b)∧w'=W:=by
 subst hb hn;exact ZnA W (some a) c l x m (h.s.below hW) hx
theorem ZeY {w W:World} {B c:Nat} {ad:Addr} {l:List Ac} {sp:List (Nat×Nat)} {v:Value} (h:Ro w ad c l) (hW:Below w.heap.size w W) (hin:∀r ∈ sp,r.1<r.2∧r.2≤l.length) (ho:W.ownsRow B 26 1 v sp.length (sp.map (spv ad))):KsM W v (sp.map (sub l)):=by
 obtain ⟨oa,cp,rfl⟩:=Zg ho;have hsv:=Zga (a:=ad) sp hin;refine ⟨oa,cp,sp.map fun r=>(some (ad.add (r.1*6)),r.2 - r.1),by rw [List.length_map],by rw [List.length_map,hsv];exact Zak ho,⟨by simp,fun j oa' c' l' e1 e2=>?_⟩,by rw [List.length_map];exact ZeV ho⟩;rw [List.getElem?_map] at e1 e2
 cases hj:sp[j]? with
 | none=>rw [hj] at e1;simp at e1
 | some r =>
  rw [hj] at e1 e2;simp only [Option.map_some,Option.some.injEq,Prod.mk.injEq] at e1 e2;obtain ⟨rfl,rfl⟩:=e1;subst e2;obtain ⟨h3,h4⟩:=hin r (List.mem_of_getElem? hj);have h5:=(h.below hW).sub (r:=r) (by omega) h4;exact ⟨h5.s,h5.n,h5.m⟩
theorem Zgl {w:World} {a:Addr} {c:Nat} {l:List Ac} {x:Ac} (h:Ro w a c l) (hp:0<l.length) (hx:l[0]? = some x):w.cell? a=some (.int .i64 x.k)∧w.cell? ⟨a.block,a.off+1,none⟩=some (.int .i64 x.a)∧a.block<w.heap.size:=by
 obtain ⟨ad,e,hb,q0,q1,_⟩:=Zq h.s hx;injection e with e;subst e;rw [show a.add (0*6)=a by simp [Addr.add]] at q0 q1;exact ⟨q0,q1,hb⟩
theorem ev1 {w:World} {p:Addr} {cp:Nat} {k:List Ac} (h1:Ro w p cp k):ZaW w [(some p,cp)] [k] :=
 ⟨rfl,fun i oa c l' e1 e2=>by
  match i with
  | 0=>simp at e1 e2;obtain ⟨rfl,rfl⟩:=e1;subst e2;exact ⟨h1.s,h1.n,h1.m⟩
  | j+1=>simp at e1⟩
theorem Zkt (w:World) (ad:Addr) (cl:Nat) (l:List Ac) (i:Nat) (x:Ac) (r0 r1:Nat×Nat) (h0 h1:Ac) (h:Ro w ad cl l) (hs:Z7 l) (hx:l[i]? = some x) (hk:ZR l x.n.toNat (i+1)=some [r0,r1]) (hh0:(sub l r0)[0]? = some h0) (hh1:(sub l r1)[0]? = some h1) (hb:∀y ∈ [h0,h1],ZN y=true → -1073741824≤y.a∧y.a≤1073741824) (K:Int) (hK:x.k=K) (hKs:K=30∨K=31∨K=32∨K=33∨K=34∨K=37∨K=38) (h9x:l.length≤131072) :
 Calls Try.prog 75 #[.slice (some ad) l.length cl,.int .i64 (i:Int)] w fun en w'=>ZbJ w' en (Za5 K [sub l r0,sub l r1] [h0,h1])∧Below w.heap.size w w':=by
 have hil:=(gs_ hx).1;obtain ⟨ad9,e9,hab,hrow⟩:=Zq h.s hx;injection e9 with e9;subst e9;have HROW:=Za (show ZbM w (ad.add (i*6)) x from hrow);have HAB:=Za (show (ad.add (i*6)).block<w.heap.size by rw [Zl];exact hab);have HKD:=Za (fun (W:World) (hb:Below w.heap.size w W)=>ZeC W ad cl l i x [r0,r1] (h.s.below hb) hs hx hk h.n h.m);have HIN:=Za (show ∀r ∈ [r0,r1],r.1<r.2∧r.2≤l.length from fun r hr=>by have:=(ZaJ l _ _ _ hk (by omega)).2 r hr;exact ⟨this.2.1,this.2.2⟩);have HRO:=Za h;have HSM:=Za h9x;obtain ⟨sp,hsp⟩:∃sp,[r0,r1]=sp:=⟨_,rfl⟩;have HSP:=Za hsp;rw [hsp] at HKD;obtain ⟨LL,hLL⟩:∃n,l.length=n:=⟨_,rfl⟩;rw [hLL] at HKD hil;rw [hLL];have HLL:=Za hLL;have hiI:(i:Int)<(LL:Int):=by omega
 have hi0:(0:Int)≤(i:Int):=by omega
 have HKK:=Za hK;have HKS:=Za hKs;have H0:=Za hh0;have H1:=Za hh1;have HB9:=Za hb;obtain ⟨k0,hk0⟩:∃k,sub l r0=k:=⟨_,rfl⟩;rw [hk0] at H0;obtain ⟨k1,hk1⟩:∃k,sub l r1=k:=⟨_,rfl⟩;rw [hk1] at H1;rw [hk0,hk1];have HLK:=Za (show k0.length≤131072∧k1.length≤131072 by rw [←hk0,←hk1];have h7:=HIN.out r0 (by simp);have h8:=HIN.out r1 (by simp);rw [ZaL h7.2,ZaL h8.2];have:=HSM.out;omega);have HK01:=Za (And.intro hk0 hk1);obtain ⟨V,hV⟩:∃V,Za5 K [k0,k1] [h0,h1]=V:=⟨_,rfl⟩;rw [hV];have HV:=Za hV;have HX9:=Za h9x
 try rw [hk0] at HX9
 clear h hs hx hk hrow hLL hsp hK hKs hh0 hh1 hb hk0 hk1 hV h9x;go_enter Try.func75,Try.ntmps75;go_upto_region 1 with fail;refine ZB (JV w (K17 w (.slice (some ad) LL cl) (.int .i64 (i:Int)) (.pointer (some (ad.add (i*6)))) (.agg #[.int .i64 x.k,.int .i64 x.a,.int .i64 x.b,.int .i64 x.c,.int .i64 x.d,.int .i64 x.n]) #[.int .i64 x.k,.int .i64 x.a,.int .i64 x.b,.int .i64 x.c,.int .i64 x.d,.int .i64 x.n] sp.length (sp.map (spv ad)))) [[],[],[0,1],[0,1,2],[],[],[4,5],[],[0,1,2,3,4,5,6,7],[0,1,2,3,4,5,6,7,8]] (by kernel_rfl) (by kernel_rfl) (fun vs=>JV.start vs (fun vs i w hi=>by match i,hi with | _+10,_=>trivial)) (fun vs=>?_);refine Zb rfl (fun S w9 hS hA hD hJ R hR=>?_) (fun K hK=>?_)
 · go_simp;exact hR _ _ (hJ.step hJ.b (fun i hij hi hk=>hk.keep br_ hij (fun _=>by decide)) Ze)
 go_simp;refine hK _ ?_;clear hK K;refine Zb rfl (fun S w9 hS hA hD hJ R hR=>?_) (fun K hK=>?_)
 · go_simp;exact hR _ _ (hJ.step hJ.b (fun i hij hi hk=>hk.keep br_ hij (fun _=>by decide)) Ze)
 go_simp;refine hK _ ?_;clear hK K;refine Zb rfl (fun S w9 hS hA hD hJ R hR=>?_) (fun K hK=>?_)
 · have k0:vs 0=_:=hJ.k 0 (hA 0 (by decide));have k1:vs 1=_:=hJ.k 1 (hA 1 (by decide));simp only [k0,k1];go_simp;exact hR _ _ (hJ.step hJ.b (fun i hij hi hk=>hk.keep br_ hij (fun _=>by decide)) Ze)
 go_simp;refine hK _ ?_;clear hK K;refine Zb rfl (fun S w9 hS hA hD hJ R hR=>?_) (fun K hK=>?_)
 · have k2:vs 2=_:=hJ.k 2 (hA 2 (by decide));obtain ⟨q0,q1,q2,q3,q4,q5⟩:=HROW.out.below HAB.out hJ.b;simp only [k2];go_simp;exact hR _ _ (hJ.step hJ.b (fun i hij hi hk=>hk.keep br_ hij (fun _=>by decide)) Ze)
 go_simp;refine hK _ ?_;clear hK K;refine Zb rfl (fun S w9 hS hA hD hJ R hR=>?_) (fun K hK=>?_)
 · go_simp;exact hR _ _ (hJ.step hJ.b (fun i hij hi hk=>hk.keep br_ hij (fun _=>by decide)) Ze)
 go_simp;refine hK _ ?_;clear hK K;refine Zb rfl (fun S w9 hS hA hD hJ R hR=>?_) (fun K hK=>?_)
 · go_simp;exact hR _ _ (hJ.step hJ.b (fun i hij hi hk=>hk.keep br_ hij (fun _=>by decide)) Ze)
 go_simp;refine hK _ ?_;clear hK K;refine Zb rfl (fun S w9 hS hA hD hJ R hR=>?_) (fun K hK=>?_)
 · have k4:vs 4=_:=hJ.k 4 (hA 4 (by decide));have k5:vs 5=_:=hJ.k 5 (hA 5 (by decide));refine pc_ Zhb (kd_ (HKD.out w9 hJ.b) fun u _ e2 e3=>hR _ _ (hJ.step (hJ.b.trans (e3.mono hJ.b.size)) (fun i hij hi hk=>hk.keep e3 hij (fun _=>by decide)) (by show World.ownsRow _ _ _ _ (upn vs 6 u 6) _ _;rw [Ze];exact Zv e2 hJ.b.size))) rfl ?_;simp [Act.eval,Act.put,k4,k5]
 go_simp;refine hK _ ?_;clear hK K;refine Zb rfl (fun S w9 hS hA hD hJ R hR=>?_) (fun K hK=>?_)
 · have h8:S 8=false:=hD 8 (by decide) (by decide);go_simp;exact hR _ _ (hJ.step (hJ.b.alloc hJ.b.size _) (fun i hij hi hk=>hk.keep ((Below.refl _ w9).alloc lr_ _) hij (fun e=>by subst e;rw [h8] at hi;cases hi)) ⟨w9.heap.size,_,Ze,hJ.b.size,Blk.new w9 49 _,rfl⟩)
 go_simp;refine hK _ ?_;clear hK K;refine Zb rfl (fun S w9 hS hA hD hJ R hR=>?_) (fun K hK=>?_)
 · obtain ⟨g,cs,k7,hg,hblk,hsz⟩:=hJ.k 7 (hA 7 (by decide));have k3:vs 3=_:=hJ.k 3 (hA 3 (by decide))
   obtain ⟨u0,u1,u2,u3,u4,u5,rfl⟩:∃u0 u1 u2 u3 u4 u5,cs=#[u0,u1,u2,u3,u4,u5]:=by
    obtain ⟨l⟩:=cs
    match l,hsz with
    | [u0,u1,u2,u3,u4,u5],_=>exact ⟨u0,u1,u2,u3,u4,u5,rfl⟩
   have hst:=Zcs hblk x;have h9:S 9=false:=hD 9 (by decide) (by decide);have hfin:=hR undef _ (hJ.step (j:=8) (u:=undef) (hJ.b.trans (hst.2.below (fun k hk=>by rw [hk];exact hg) hJ.b.size)) (fun i hij hi hk=>K17.only hk hst.2 hij (fun g2 e=>by rw [k7] at e;cases e;exact ⟨rfl,_,hst.1,rfl⟩) hblk) ⟨g,(Zd (by decide)).trans k7,hg,hst.1⟩);obtain ⟨z0,z1,z2,z3,z4,z5,_⟩:=Zk hblk;have f0:=hblk.frozen 0;have f1:=hblk.frozen 1;have f2:=hblk.frozen 2;have f3:=hblk.frozen 3;have f4:=hblk.frozen 4;have f5:=hblk.frozen 5;simp only [k3,k7];go_simp;exact hfin
 go_simp;refine hK _ ?_;clear hK K;refine Zb rfl (fun S w9 hS hA hD hJ R hR=>?_) (fun K hK=>?_)
 · have k6:w9.ownsRow w.heap.size 26 1 (vs 6) _ _:=hJ.k 6 (hA 6 (by decide));go_simp;exact hR _ _ (hJ.step hJ.b (fun i hij hi hk=>hk.keep br_ hij (fun _=>by decide)) (by show World.ownsRow _ _ _ _ (upn vs 9 (vs 6) 9) _ _;rw [Ze];exact k6))
 go_simp;refine hK _ ?_;clear hK K;refine Z2 (fun W1 hJ=>?_);obtain ⟨gx,k7,hgx,hbx⟩:=hJ.k 8 rfl;have k9:W1.ownsRow w.heap.size 26 1 (vs 9) _ _:=hJ.k 9 rfl;have HBW:=Za hJ.b;have HKO:=Za k9;have HBX:=Za hbx;have HGX:=Za hgx;clear hJ k9 hbx hgx;simp only [k7];clear k7;have hkm:KsM W1 (vs 9) [k0,k1]:=by have h9:=ZeY HRO.out HBW.out (sp:=sp) (by rw [←HSP.out];exact HIN.out) HKO.out;rw [←HSP.out] at h9;simp only [List.map_cons,List.map_nil,HK01.out.1,HK01.out.2] at h9;exact h9
 have HKM:=Za hkm;obtain ⟨ak,ck,e9,hakb,hck,hxk⟩:=hkm.at_ (by simp);simp only [List.length_cons,List.length_nil,Nat.zero_add,Nat.reduceAdd] at e9 hck;have p0:=(gs_ H0.out).1;have p1:=(gs_ H1.out).1;obtain ⟨a0,c0,qk0,rk0⟩:=hxk 0 k0 rfl p0;obtain ⟨a1,c1,qk1,rk1⟩:=hxk 1 k1 rfl p1;rw [show ak.add 0=ak by simp [Addr.add]] at qk0;rw [show ak.add 1=⟨ak.block,ak.off+1,none⟩ by simp [Addr.add]] at qk1
 have hcn:=Zei W1 x (vs 9) [k0,k1] [h0,h1] HKM.out ⟨rfl,fun j k y e1 e2=>by
  match j with
  | 0=>simp at e1 e2;subst e1 e2;exact H0.out
  | 1=>simp at e1 e2;subst e1 e2;exact H1.out
  | j+2=>simp at e1⟩ (by simp) HB9.out (fun e=>by cases e)
 have hkm2:=HKM.out;rw [e9] at hkm2;have HKM2:=Za hkm2;clear hkm2;rw [e9] at hcn;simp only [Ac.val] at hcn;simp only [e9];rw [HKK.out] at hcn;have HCN:=Za hcn;have RK0:=Za rk0;have RK1:=Za rk1;obtain ⟨L0,hL0⟩:∃n,k0.length=n:=⟨_,rfl⟩;rw [hL0] at qk0 p0;have HL0:=Za hL0;have HQ0:=Za qk0;have hp0:(0:Int)<(L0:Int):=by omega
 obtain ⟨L1,hL1⟩:∃n,k1.length=n:=⟨_,rfl⟩;rw [hL1] at qk1 p1;have HL1:=Za hL1;have HQ1:=Za qk1;have hp1:(0:Int)<(L1:Int):=by omega
 clear hcn hxk hkm e9 rk0 qk0 hL0 rk1 qk1 hL1;obtain ⟨y0,y1,y2,y3,y4,y5,hbx⟩:=Zk HBX.out;rw [HKK.out] at y0
 cases hcv:Zas K [h0,h1] with
 | some y =>
  rw [hcv] at HCN;have HE:=Za (show V=some (1,some [y]) by rw [←HV.out];unfold Za5;rw [hcv]);clear hcv;go_wp2_with (go_at_call 115;with_reducible refine HCN.out.mono ?_;rintro en w2 ⟨hc9,hb2⟩;simp only [ZfB] at hc9;obtain ⟨aq,rfl,hrq⟩:=hc9;have HRQ:=Za hrq;have HB2:=Za hb2;clear hrq hb2);go_ret3;rw [HE.out];exact ⟨⟨_,rfl,HRQ.out.rin⟩,HBW.out.trans (HB2.out.mono HBW.out.size)⟩
 | none =>
  rw [hcv] at HCN;have HE:=Za (show V=ZaO K k0 k1 h0 h1 by rw [←HV.out];unfold Za5;rw [hcv]);clear hcv;go_upto_region 5 with (go_at_call 115;with_reducible refine HCN.out.mono ?_;rintro en W3 ⟨hc9,hb2⟩;simp only [ZfB] at hc9;subst hc9;have HB2:=Za hb2;clear hb2);have HBW3:=Za (HBW.out.trans (HB2.out.mono HBW.out.size));have HX3:=Za (HBX.out.below HB2.out HBX.out.lt);clear y0 y1 y2 y3 y4 y5 hbx;obtain ⟨y0,y1,y2,y3,y4,y5,hbx⟩:=Zk HX3.out;rw [HKK.out] at y0;have qk0:=(HB2.out.cell (p:=ak) hakb).trans HQ0.out;have qk1:=(HB2.out.cell (p:=⟨ak.block,ak.off+1,none⟩) hakb).trans HQ1.out;rcases HKS.out with rfl | rfl | rfl | rfl | rfl | rfl | rfl
  · obtain ⟨n0,hn0⟩:∃b,ZaX h0 1=b:=⟨_,rfl⟩;have Hn0:=Za (fun W hW=>ZdA RK0.out HL0.out H0.out 1 hn0 W hW);have En0:=Za hn0;clear hn0;obtain ⟨n1,hn1⟩:∃b,ZaX h1 1=b:=⟨_,rfl⟩;have Hn1:=Za (fun W hW=>ZdA RK1.out HL1.out H1.out 1 hn1 W hW);have En1:=Za hn1;clear hn1;obtain ⟨z0,hz0⟩:∃b,ZaX h0 0=b:=⟨_,rfl⟩;have Hz0:=Za (fun W hW=>ZdA RK0.out HL0.out H0.out 0 hz0 W hW);have Ez0:=Za hz0;clear hz0;obtain ⟨z1,hz1⟩:∃b,ZaX h1 0=b:=⟨_,rfl⟩;have Hz1:=Za (fun W hW=>ZdA RK1.out HL1.out H1.out 0 hz1 W hW);have Ez1:=Za hz1;clear hz1;obtain ⟨hm0,hhm0⟩:∃b,ZK k0=b:=⟨_,rfl⟩;have Hhm0:=Za (fun W hW=>by have h9:=Zb5 RK0.out (by have:=HLK.out;omega) hhm0 W hW;rw [HL0.out] at h9;exact h9);have Ehm0:=Za hhm0;clear hhm0;obtain ⟨hm1,hhm1⟩:∃b,ZK k1=b:=⟨_,rfl⟩;have Hhm1:=Za (fun W hW=>by have h9:=Zb5 RK1.out (by have:=HLK.out;omega) hhm1 W hW;rw [HL1.out] at h9;exact h9);have Ehm1:=Za hhm1;clear hhm1
    cases n0 with
    | true =>
     replace HE:=Za (show V=some (5,some k1) by rw [HE.out];simp [ZaO,En0.out]);go_wp2_with (go_at_call 117;with_reducible refine (Hn0.out _ HB2.out).mono ?_;rintro en w8 ⟨rfl,rfl⟩);go_quiet (fail);go_wp2_with fail;go_ret3;exact ⟨by rw [HE.out];exact ⟨_,rfl,(RK1.out.below (Zc HB2.out _)).rinN HL1.out⟩,Zc HBW3.out _⟩
    | false =>
     cases n1 with
     | true =>
      replace HE:=Za (show V=some (5,some k0) by rw [HE.out];simp [ZaO,En0.out,En1.out]);go_wp2_with (go_at_call 117;with_reducible refine (Hn0.out _ HB2.out).mono ?_;rintro en w8 ⟨rfl,rfl⟩);go_wp2_with (go_at_call 117;with_reducible refine (Hn1.out _ HB2.out).mono ?_;rintro en w8 ⟨rfl,rfl⟩);go_quiet (fail);go_wp2_with fail;go_ret3;exact ⟨by rw [HE.out];exact ⟨_,rfl,(RK0.out.below (Zc HB2.out _)).rinN HL0.out⟩,Zc HBW3.out _⟩
     | false =>
      cases z0 with
      | false =>
       cases z1 with
       | false =>
        replace HE:=Za (show V=none by rw [HE.out];simp [ZaO,En0.out,En1.out,Ez0.out,Ez1.out,Ehm0.out,Ehm1.out]);go_wp2_with (go_at_call 117;with_reducible refine (Hn0.out _ HB2.out).mono ?_;rintro en w8 ⟨rfl,rfl⟩);go_wp2_with (go_at_call 117;with_reducible refine (Hn1.out _ HB2.out).mono ?_;rintro en w8 ⟨rfl,rfl⟩);go_wp2_with (go_at_call 117;with_reducible refine (Hz0.out _ HB2.out).mono ?_;rintro en w8 ⟨rfl,rfl⟩);go_wp2_with (go_at_call 117;with_reducible refine (Hz1.out _ HB2.out).mono ?_;rintro en w8 ⟨rfl,rfl⟩);go_wp2_with fail;go_ret3;exact ⟨by rw [HE.out];rfl,HBW.out.trans (HB2.out.mono HBW.out.size)⟩
       | true =>
        cases hm0 with
        | false =>
         replace HE:=Za (show V=none by rw [HE.out];simp [ZaO,En0.out,En1.out,Ez0.out,Ez1.out,Ehm0.out,Ehm1.out]);go_wp2_with (go_at_call 117;with_reducible refine (Hn0.out _ HB2.out).mono ?_;rintro en w8 ⟨rfl,rfl⟩);go_wp2_with (go_at_call 117;with_reducible refine (Hn1.out _ HB2.out).mono ?_;rintro en w8 ⟨rfl,rfl⟩);go_wp2_with (go_at_call 117;with_reducible refine (Hz0.out _ HB2.out).mono ?_;rintro en w8 ⟨rfl,rfl⟩);go_wp2_with (go_at_call 117;with_reducible refine (Hz1.out _ HB2.out).mono ?_;rintro en w8 ⟨rfl,rfl⟩);go_wp2_with (go_at_call 118;with_reducible refine (Hhm0.out _ HB2.out).mono ?_;rintro en w7 ⟨rfl,h_w7⟩;have HB_w7:=Za (HB2.out.trans (h_w7.mono HB2.out.size));have qk0:=(HB_w7.out.cell (p:=ak) hakb).trans HQ0.out;have qk1:=(HB_w7.out.cell (p:=⟨ak.block,ak.off+1,none⟩) hakb).trans HQ1.out;clear h_w7);go_wp2_with fail;go_ret3;exact ⟨by rw [HE.out];rfl,HBW.out.trans (HB_w7.out.mono HBW.out.size)⟩
        | true =>
         replace HE:=Za (show V=some (6,some [ZaQ 0]) by rw [HE.out];simp [ZaO,En0.out,En1.out,Ez0.out,Ez1.out,Ehm0.out,Ehm1.out]);go_wp2_with (go_at_call 117;with_reducible refine (Hn0.out _ HB2.out).mono ?_;rintro en w8 ⟨rfl,rfl⟩);go_wp2_with (go_at_call 117;with_reducible refine (Hn1.out _ HB2.out).mono ?_;rintro en w8 ⟨rfl,rfl⟩);go_wp2_with (go_at_call 117;with_reducible refine (Hz0.out _ HB2.out).mono ?_;rintro en w8 ⟨rfl,rfl⟩);go_wp2_with (go_at_call 117;with_reducible refine (Hz1.out _ HB2.out).mono ?_;rintro en w8 ⟨rfl,rfl⟩);go_wp2_with (go_at_call 118;with_reducible refine (Hhm0.out _ HB2.out).mono ?_;rintro en w7 ⟨rfl,h_w7⟩;have HB_w7:=Za (HB2.out.trans (h_w7.mono HB2.out.size));have qk0:=(HB_w7.out.cell (p:=ak) hakb).trans HQ0.out;have qk1:=(HB_w7.out.cell (p:=⟨ak.block,ak.off+1,none⟩) hakb).trans HQ1.out;clear h_w7);go_wp2_with (go_at_call 119;with_reducible refine (ZbI _ _).mono ?_;rintro en w9 ⟨ar,rfl,hr9,hb9⟩;have HR9:=Za hr9;have HB9:=Za (HB_w7.out.trans (hb9.mono HB_w7.out.size));clear hr9 hb9);go_ret3;exact ⟨by rw [HE.out];exact ⟨_,rfl,HR9.out.rin⟩,HBW.out.trans (HB9.out.mono HBW.out.size)⟩
      | true =>
       cases hm1 with
       | true =>
        replace HE:=Za (show V=some (6,some [ZaQ 0]) by rw [HE.out];simp [ZaO,En0.out,En1.out,Ez0.out,Ez1.out,Ehm0.out,Ehm1.out]);go_wp2_with (go_at_call 117;with_reducible refine (Hn0.out _ HB2.out).mono ?_;rintro en w8 ⟨rfl,rfl⟩);go_wp2_with (go_at_call 117;with_reducible refine (Hn1.out _ HB2.out).mono ?_;rintro en w8 ⟨rfl,rfl⟩);go_wp2_with (go_at_call 117;with_reducible refine (Hz0.out _ HB2.out).mono ?_;rintro en w8 ⟨rfl,rfl⟩);go_wp2_with (go_at_call 118;with_reducible refine (Hhm1.out _ HB2.out).mono ?_;rintro en w6 ⟨rfl,h_w6⟩;have HB_w6:=Za (HB2.out.trans (h_w6.mono HB2.out.size));have qk0:=(HB_w6.out.cell (p:=ak) hakb).trans HQ0.out;have qk1:=(HB_w6.out.cell (p:=⟨ak.block,ak.off+1,none⟩) hakb).trans HQ1.out;clear h_w6);go_wp2_with (go_at_call 119;with_reducible refine (ZbI _ _).mono ?_;rintro en w9 ⟨ar,rfl,hr9,hb9⟩;have HR9:=Za hr9;have HB9:=Za (HB_w6.out.trans (hb9.mono HB_w6.out.size));clear hr9 hb9);go_ret3;exact ⟨by rw [HE.out];exact ⟨_,rfl,HR9.out.rin⟩,HBW.out.trans (HB9.out.mono HBW.out.size)⟩
       | false =>
        cases z1 with
        | false =>
         replace HE:=Za (show V=none by rw [HE.out];simp [ZaO,En0.out,En1.out,Ez0.out,Ez1.out,Ehm0.out,Ehm1.out]);go_wp2_with (go_at_call 117;with_reducible refine (Hn0.out _ HB2.out).mono ?_;rintro en w8 ⟨rfl,rfl⟩);go_wp2_with (go_at_call 117;with_reducible refine (Hn1.out _ HB2.out).mono ?_;rintro en w8 ⟨rfl,rfl⟩);go_wp2_with (go_at_call 117;with_reducible refine (Hz0.out _ HB2.out).mono ?_;rintro en w8 ⟨rfl,rfl⟩);go_wp2_with (go_at_call 118;with_reducible refine (Hhm1.out _ HB2.out).mono ?_;rintro en w6 ⟨rfl,h_w6⟩;have HB_w6:=Za (HB2.out.trans (h_w6.mono HB2.out.size));have qk0:=(HB_w6.out.cell (p:=ak) hakb).trans HQ0.out;have qk1:=(HB_w6.out.cell (p:=⟨ak.block,ak.off+1,none⟩) hakb).trans HQ1.out;clear h_w6);go_wp2_with (go_at_call 117;with_reducible refine (Hz1.out _ HB_w6.out).mono ?_;rintro en w8 ⟨rfl,rfl⟩);go_wp2_with fail;go_ret3;exact ⟨by rw [HE.out];rfl,HBW.out.trans (HB_w6.out.mono HBW.out.size)⟩
        | true =>
         cases hm0 with
         | false =>
          replace HE:=Za (show V=none by rw [HE.out];simp [ZaO,En0.out,En1.out,Ez0.out,Ez1.out,Ehm0.out,Ehm1.out]);go_wp2_with (go_at_call 117;with_reducible refine (Hn0.out _ HB2.out).mono ?_;rintro en w8 ⟨rfl,rfl⟩);go_wp2_with (go_at_call 117;with_reducible refine (Hn1.out _ HB2.out).mono ?_;rintro en w8 ⟨rfl,rfl⟩);go_wp2_with (go_at_call 117;with_reducible refine (Hz0.out _ HB2.out).mono ?_;rintro en w8 ⟨rfl,rfl⟩);go_wp2_with (go_at_call 118;with_reducible refine (Hhm1.out _ HB2.out).mono ?_;rintro en w6 ⟨rfl,h_w6⟩;have HB_w6:=Za (HB2.out.trans (h_w6.mono HB2.out.size));have qk0:=(HB_w6.out.cell (p:=ak) hakb).trans HQ0.out;have qk1:=(HB_w6.out.cell (p:=⟨ak.block,ak.off+1,none⟩) hakb).trans HQ1.out;clear h_w6);go_wp2_with (go_at_call 117;with_reducible refine (Hz1.out _ HB_w6.out).mono ?_;rintro en w8 ⟨rfl,rfl⟩);go_wp2_with (go_at_call 118;with_reducible refine (Hhm0.out _ HB_w6.out).mono ?_;rintro en w7 ⟨rfl,h_w7⟩;have HB_w7:=Za (HB_w6.out.trans (h_w7.mono HB_w6.out.size));have qk0:=(HB_w7.out.cell (p:=ak) hakb).trans HQ0.out;have qk1:=(HB_w7.out.cell (p:=⟨ak.block,ak.off+1,none⟩) hakb).trans HQ1.out;clear h_w7);go_wp2_with fail;go_ret3;exact ⟨by rw [HE.out];rfl,HBW.out.trans (HB_w7.out.mono HBW.out.size)⟩
         | true =>
          replace HE:=Za (show V=some (6,some [ZaQ 0]) by rw [HE.out];simp [ZaO,En0.out,En1.out,Ez0.out,Ez1.out,Ehm0.out,Ehm1.out]);go_wp2_with (go_at_call 117;with_reducible refine (Hn0.out _ HB2.out).mono ?_;rintro en w8 ⟨rfl,rfl⟩);go_wp2_with (go_at_call 117;with_reducible refine (Hn1.out _ HB2.out).mono ?_;rintro en w8 ⟨rfl,rfl⟩);go_wp2_with (go_at_call 117;with_reducible refine (Hz0.out _ HB2.out).mono ?_;rintro en w8 ⟨rfl,rfl⟩);go_wp2_with (go_at_call 118;with_reducible refine (Hhm1.out _ HB2.out).mono ?_;rintro en w6 ⟨rfl,h_w6⟩;have HB_w6:=Za (HB2.out.trans (h_w6.mono HB2.out.size));have qk0:=(HB_w6.out.cell (p:=ak) hakb).trans HQ0.out;have qk1:=(HB_w6.out.cell (p:=⟨ak.block,ak.off+1,none⟩) hakb).trans HQ1.out;clear h_w6);go_wp2_with (go_at_call 117;with_reducible refine (Hz1.out _ HB_w6.out).mono ?_;rintro en w8 ⟨rfl,rfl⟩);go_wp2_with (go_at_call 118;with_reducible refine (Hhm0.out _ HB_w6.out).mono ?_;rintro en w7 ⟨rfl,h_w7⟩;have HB_w7:=Za (HB_w6.out.trans (h_w7.mono HB_w6.out.size));have qk0:=(HB_w7.out.cell (p:=ak) hakb).trans HQ0.out;have qk1:=(HB_w7.out.cell (p:=⟨ak.block,ak.off+1,none⟩) hakb).trans HQ1.out;clear h_w7);go_wp2_with (go_at_call 119;with_reducible refine (ZbI _ _).mono ?_;rintro en w9 ⟨ar,rfl,hr9,hb9⟩;have HR9:=Za hr9;have HB9:=Za (HB_w7.out.trans (hb9.mono HB_w7.out.size));clear hr9 hb9);go_ret3;exact ⟨by rw [HE.out];exact ⟨_,rfl,HR9.out.rin⟩,HBW.out.trans (HB9.out.mono HBW.out.size)⟩
  · obtain ⟨n1,hn1⟩:∃b,ZaX h1 1=b:=⟨_,rfl⟩;have Hn1:=Za (fun W hW=>ZdA RK1.out HL1.out H1.out 1 hn1 W hW);have En1:=Za hn1;clear hn1
    cases n1 with
    | true =>
     replace HE:=Za (show V=some (5,some k0) by rw [HE.out];simp [ZaO,En1.out]);go_wp2_with (go_at_call 117;with_reducible refine (Hn1.out _ HB2.out).mono ?_;rintro en w8 ⟨rfl,rfl⟩);go_quiet (fail);go_wp2_with fail;go_ret3;exact ⟨by rw [HE.out];exact ⟨_,rfl,(RK0.out.below (Zc HB2.out _)).rinN HL0.out⟩,Zc HBW3.out _⟩
    | false =>
     replace HE:=Za (show V=none by rw [HE.out];simp [ZaO,En1.out]);go_wp2_with (go_at_call 117;with_reducible refine (Hn1.out _ HB2.out).mono ?_;rintro en w8 ⟨rfl,rfl⟩);go_wp2_with fail;go_ret3;exact ⟨by rw [HE.out];rfl,HBW3.out⟩
  · obtain ⟨n0,hn0⟩:∃b,ZaX h0 0=b:=⟨_,rfl⟩;have Hn0:=Za (fun W hW=>ZdA RK0.out HL0.out H0.out 0 hn0 W hW);have En0:=Za hn0;clear hn0;obtain ⟨n1,hn1⟩:∃b,ZaX h1 0=b:=⟨_,rfl⟩;have Hn1:=Za (fun W hW=>ZdA RK1.out HL1.out H1.out 0 hn1 W hW);have En1:=Za hn1;clear hn1
    cases n0 with
    | true =>
     replace HE:=Za (show V=some (5,some k1) by rw [HE.out];simp [ZaO,En0.out]);go_wp2_with (go_at_call 117;with_reducible refine (Hn0.out _ HB2.out).mono ?_;rintro en w8 ⟨rfl,rfl⟩);go_quiet (fail);go_wp2_with fail;go_ret3;exact ⟨by rw [HE.out];exact ⟨_,rfl,(RK1.out.below (Zc HB2.out _)).rinN HL1.out⟩,Zc HBW3.out _⟩
    | false =>
     cases n1 with
     | true =>
      replace HE:=Za (show V=some (5,some k0) by rw [HE.out];simp [ZaO,En0.out,En1.out]);go_wp2_with (go_at_call 117;with_reducible refine (Hn0.out _ HB2.out).mono ?_;rintro en w8 ⟨rfl,rfl⟩);go_wp2_with (go_at_call 117;with_reducible refine (Hn1.out _ HB2.out).mono ?_;rintro en w8 ⟨rfl,rfl⟩);go_quiet (fail);go_wp2_with fail;go_ret3;exact ⟨by rw [HE.out];exact ⟨_,rfl,(RK0.out.below (Zc HB2.out _)).rinN HL0.out⟩,Zc HBW3.out _⟩
     | false =>
      replace HE:=Za (show V=none by rw [HE.out];simp [ZaO,En0.out,En1.out]);go_wp2_with (go_at_call 117;with_reducible refine (Hn0.out _ HB2.out).mono ?_;rintro en w8 ⟨rfl,rfl⟩);go_wp2_with (go_at_call 117;with_reducible refine (Hn1.out _ HB2.out).mono ?_;rintro en w8 ⟨rfl,rfl⟩);go_wp2_with fail;go_ret3;exact ⟨by rw [HE.out];rfl,HBW3.out⟩
  · obtain ⟨n1,hn1⟩:∃b,ZaX h1 0=b:=⟨_,rfl⟩;have Hn1:=Za (fun W hW=>ZdA RK1.out HL1.out H1.out 0 hn1 W hW);have En1:=Za hn1;clear hn1
    cases n1 with
    | true =>
     replace HE:=Za (show V=some (5,some k0) by rw [HE.out];simp [ZaO,En1.out]);go_wp2_with (go_at_call 117;with_reducible refine (Hn1.out _ HB2.out).mono ?_;rintro en w8 ⟨rfl,rfl⟩);go_quiet (fail);go_wp2_with fail;go_ret3;exact ⟨by rw [HE.out];exact ⟨_,rfl,(RK0.out.below (Zc HB2.out _)).rinN HL0.out⟩,Zc HBW3.out _⟩
    | false =>
     replace HE:=Za (show V=none by rw [HE.out];simp [ZaO,En1.out]);go_wp2_with (go_at_call 117;with_reducible refine (Hn1.out _ HB2.out).mono ?_;rintro en w8 ⟨rfl,rfl⟩);go_wp2_with fail;go_ret3;exact ⟨by rw [HE.out];rfl,HBW3.out⟩
  · obtain ⟨hd00,hd01,hab0⟩:=Zgl (RK0.out.below HB2.out) (by rw [HL0.out];exact p0) H0.out;obtain ⟨hd10,hd11,hab1⟩:=Zgl (RK1.out.below HB2.out) (by rw [HL1.out];exact p1) H1.out;have hq1:=IntWalk.i64_in ((0:Int)+1) (by omega);have hq2:=IntWalk.i64_in ((1:Int) - 0) (by omega);have hq3:=IntWalk.i64_in ((1:Int) - 1) (by omega);have hq4:=IntWalk.i64_in ((1:Int)+1) (by omega);have HBY:=Za (And.intro hbx hakb);go_upto_region 33 with fail;go_loopw [135] (fun t135 W=>∃j:Nat,t135=.int .i64 (j:Int)∧j≤2∧Hid (∀i y,i<j→[h0,h1][i]? = some y→y.k≠20)∧W=W3) (fun t135 _=>2 - (intOf t135).toNat)
    case atStart=>exact ⟨0,rfl,by omega,Za (fun i y hi=>absurd hi (Nat.not_lt_zero _)),rfl⟩
    case round =>
     obtain ⟨j,rfl,hj,HF,rfl⟩:=hrel
     match j,hj with
     | 0,_ =>
      clear hj
      by_cases hkk:h0.k=20
      · have hb20:(h0.k != 20)=false:=by simp [hkk]
        by_cases ha1:h0.a=1
        · have hab9:(h0.a == 1)=true:=by simp [ha1]
          have HE2:=Za (show V=some (7,some k1) by rw [HE.out];simp [ZaO,hkk,ha1]);clear ha1 hkk;go_wp2_with fail
          all_goals try (go_quiet (fail);go_wp2_with fail)
          go_ret3;exact ⟨by rw [HE2.out];exact ⟨_,rfl,(RK1.out.below HB2.out).rinN HL1.out⟩,HBW3.out⟩
        · have hab9:(h0.a == 1)=false:=by simp [ha1]
          have HE2:=Za (show V=some (7,some ((⟨29,0,0,0,0,0⟩:Ac).kid 1::k1)) by rw [HE.out];simp [ZaO,hkk,ha1]);clear ha1 hkk;have HB4:=Za ((Below.refl wr.heap.size wr).alloc lr_ (.cells #[.slice (some a1) L1 c1] 26));have HKN:=Za (Zb2 (w':=wr.alloc (.cells #[.slice (some a1) L1 c1] 26)) (rs:=[(some a1,c1)]) (ks:=[k1]) (rest:=[]) (n:=1) (c:=1) (ev1 ((RK1.out.below HB2.out).below HB4.out)) (by simp only [slv,List.append_nil,HL1.out];exact Blk.new wr _ _) lr_ rfl);have hrw:=Zd9 _ ⟨29,0,0,0,0,0⟩ _ _ HKN.out (by simp) (by have:=HLK.out;simp [Zh];omega);simp only [Ac.val] at hrw;have HRW:=Za hrw;clear hrw;go_wp2_with (go_at_call 120;with_reducible refine (HRW.out).mono ?_;rintro en w9 ⟨u,rfl,hr9,hb9⟩;have HR9:=Za hr9;have HB9:=Za (HB4.out.trans (hb9.mono HB4.out.size));clear hr9 hb9);go_ret3;exact ⟨by rw [HE2.out];exact ⟨_,rfl,by simpa using HR9.out⟩,HBW3.out.trans (HB9.out.mono HBW3.out.size)⟩
      · have hb20:(h0.k != 20)=true:=by simp [hkk]
        have HN0:=Za hkk;clear hkk;go_wp2_with fail;go_roundw
        case rel =>
         refine ⟨1,rfl,by omega,Za (fun i y hi e=>?_),trivial⟩
         match i,e with
         | 0,e=>simp at e;subst e;exact HN0.out
         | q+1,_=>omega
        case measure =>
         simp only [intOf];decide
     | 1,_ =>
      clear hj;have HN0:=Za (HF.out 0 h0 (by omega) rfl)
      by_cases hkk:h1.k=20
      · have hb20:(h1.k != 20)=false:=by simp [hkk]
        by_cases ha1:h1.a=1
        · have hab9:(h1.a == 1)=true:=by simp [ha1]
          have HE2:=Za (show V=some (7,some k0) by rw [HE.out];simp [ZaO,hkk,HN0.out,ha1]);clear ha1 hkk;go_wp2_with fail
          all_goals try (go_quiet (fail);go_wp2_with fail)
          go_ret3;exact ⟨by rw [HE2.out];exact ⟨_,rfl,(RK0.out.below HB2.out).rinN HL0.out⟩,HBW3.out⟩
        · have hab9:(h1.a == 1)=false:=by simp [ha1]
          have HE2:=Za (show V=some (7,some ((⟨29,0,0,0,0,0⟩:Ac).kid 1::k0)) by rw [HE.out];simp [ZaO,hkk,HN0.out,ha1]);clear ha1 hkk;have HB4:=Za ((Below.refl wr.heap.size wr).alloc lr_ (.cells #[.slice (some a0) L0 c0] 26));have HKN:=Za (Zb2 (w':=wr.alloc (.cells #[.slice (some a0) L0 c0] 26)) (rs:=[(some a0,c0)]) (ks:=[k0]) (rest:=[]) (n:=1) (c:=1) (ev1 ((RK0.out.below HB2.out).below HB4.out)) (by simp only [slv,List.append_nil,HL0.out];exact Blk.new wr _ _) lr_ rfl);have hrw:=Zd9 _ ⟨29,0,0,0,0,0⟩ _ _ HKN.out (by simp) (by have:=HLK.out;simp [Zh];omega);simp only [Ac.val] at hrw;have HRW:=Za hrw;clear hrw;go_wp2_with (go_at_call 120;with_reducible refine (HRW.out).mono ?_;rintro en w9 ⟨u,rfl,hr9,hb9⟩;have HR9:=Za hr9;have HB9:=Za (HB4.out.trans (hb9.mono HB4.out.size));clear hr9 hb9);go_ret3;exact ⟨by rw [HE2.out];exact ⟨_,rfl,by simpa using HR9.out⟩,HBW3.out.trans (HB9.out.mono HBW3.out.size)⟩
      · have hb20:(h1.k != 20)=true:=by simp [hkk]
        have HN1:=Za hkk;clear hkk;go_wp2_with fail;go_roundw
        case rel =>
         refine ⟨2,rfl,by omega,Za (fun i y hi e=>?_),trivial⟩
         match i,e with
         | 0,e=>simp at e;subst e;exact HN0.out
         | 1,e=>simp at e;subst e;exact HN1.out
         | q+2,_=>omega
        case measure =>
         simp only [intOf];decide
     | 2,_ =>
      clear hj;have HE2:=Za (show V=none by rw [HE.out];simp [ZaO,HF.out 0 h0 (by omega) rfl,HF.out 1 h1 (by omega) rfl]);go_wp2_with fail;go_ret3;exact ⟨by rw [HE2.out];rfl,HBW3.out⟩
     | q+3,h=>exact absurd h (by omega)
  · replace HE:=Za (show V=ZcB 37 k0 k1 h0 h1 by rw [HE.out];simp [ZaO]);clear qk0 qk1;have hbo:=ZkI W3 x (.slice (some ak) 2 ck) k0 k1 h0 h1 (HKM2.out.below HB2.out) H0.out H1.out (by have:=HLK.out;omega);simp only [Ac.val] at hbo;rw [HKK.out] at hbo;rw [←HE.out] at hbo;have HBO:=Za hbo;clear hbo;go_wp2_with (go_at_call 116;with_reducible refine HBO.out.mono ?_;rintro en w8 ⟨hr8,hb8⟩;have HB8:=Za hb8;clear hb8;obtain ⟨n8,v8,b8,rfl,hr9⟩:=ZbJ.get hr8;have HR9:=Za hr9;clear hr8 hr9);go_ret3;exact ⟨HR9.out,HBW3.out.trans (HB8.out.mono HBW3.out.size)⟩
  · replace HE:=Za (show V=ZcB 38 k0 k1 h0 h1 by rw [HE.out];simp [ZaO]);clear qk0 qk1;have hbo:=ZkI W3 x (.slice (some ak) 2 ck) k0 k1 h0 h1 (HKM2.out.below HB2.out) H0.out H1.out (by have:=HLK.out;omega);simp only [Ac.val] at hbo;rw [HKK.out] at hbo;rw [←HE.out] at hbo;have HBO:=Za hbo;clear hbo;go_wp2_with (go_at_call 116;with_reducible refine HBO.out.mono ?_;rintro en w8 ⟨hr8,hb8⟩;have HB8:=Za hb8;clear hb8;obtain ⟨n8,v8,b8,rfl,hr9⟩:=ZbJ.get hr8;have HR9:=Za hr9;clear hr8 hr9);go_ret3;exact ⟨HR9.out,HBW3.out.trans (HB8.out.mono HBW3.out.size)⟩
end
end Go.Proofs.Ytdpokdcendgfeaa
