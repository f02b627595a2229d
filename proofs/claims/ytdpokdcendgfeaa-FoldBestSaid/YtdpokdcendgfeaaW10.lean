/- Several texts in one: The walk of fold.doing. Conditions: those of each. -/
import Derived.Test.YtdpokdcendgfeaaW9
set_option linter.unusedSimpArgs false
set_option linter.unusedVariables false
set_option maxHeartbeats 80000000
set_option maxRecDepth 100000
namespace Go.Proofs.Ytdpokdcendgfeaa
open Go.RowKit
section
attribute [local go_sem] par Zah
structure Fd where
 (what frm to_:Nat)
 inn:Option (List Ac)
 (parts gone:Int)
def FdV (w:World) (v:Value) (f:Fd):Prop:=∃u,v=.agg #[.int .i64 (f.what:Int),.int .i64 (f.frm:Int),.int .i64 (f.to_:Int),u,.int .i64 f.parts,.int .i64 f.gone]∧Rin w u f.inn
def Zep (w:World) (en:Ending):Option Fd→Prop
 | none=>∃n0 n1 n2 oa n c n4 n5,en=.returned (.tuple #[.agg #[.int .i64 n0,.int .i64 n1,.int .i64 n2,.slice oa n c,.int .i64 n4,.int .i64 n5],.bool false])
 | some f=>∃v,en=.returned (.tuple #[v,.bool true])∧FdV w v f
def brV (x:Ac):List (List Ac)→List Ac→Option (Nat×Option (List Ac))
 | [c,a],[c0,a0]=>Z3 x c a none c0 a0 a0
 | [c,a,b],[c0,a0,b0]=>Z3 x c a (some b) c0 a0 b0
 | _,_=>none
def ZlS:List (List Ac)→List Ac→Prop
 | [c,a],[c0,a0]=>c[0]? = some c0∧BlkOk a a0∧(c0.k=29→2≤c.length)∧c.length+a.length≤131072
 | [c,a,b],[c0,a0,b0]=>c[0]? = some c0∧BlkOk a a0∧BlkOk b b0∧(c0.k=29→2≤c.length)∧c.length+a.length+b.length≤131072
 | _,_=>False
theorem ZlL (w:World) (x:Ac) (v:Value) (ks:List (List Ac)) (hs:List Ac) (h:KsM w v ks) (hb:ZlS ks hs) :
 Calls Try.prog 121 #[x.val,v] w fun en w'=>ZbJ w' en (brV x ks hs)∧Below w.heap.size w w':=by
 match ks,hs,hb with
 | [c,a],[c0,a0],hb=>exact ZkH w x v c a c0 a0 a0 h hb.1 hb.2.1 hb.2.2.1 hb.2.2.2
 | [c,a,b],[c0,a0,b0],hb=>exact ZkG w x v c a b c0 a0 b0 h hb.1 hb.2.1 hb.2.2.1 hb.2.2.2.1 hb.2.2.2.2
theorem Zfj {x:Ac} {c a:List Ac} {ob:Option (List Ac)} {c0 a0 b0:Ac} {n:Nat} {l:List Ac} (ha:0<a.length) (hb:∀b,ob=some b→0<b.length) (h:Z3 x c a ob c0 a0 b0=some (n,some l)):0<l.length:=by
 unfold Z3 at h;split at h
 · simp only [Option.some.injEq,Prod.mk.injEq] at h;rw [←h.2];exact ha
 · split at h
   · simp only [Option.some.injEq,Prod.mk.injEq] at h;exact hb _ h.2
   · split at h
     · simp only [Option.some.injEq,Prod.mk.injEq] at h;rw [←h.2];simp
     · split at h
       · split at h
         · simp at h
         · split at h
           · simp only [Option.some.injEq,Prod.mk.injEq] at h;rw [←h.2];simp
           · cases h
       · split at h
         · simp only [Option.some.injEq,Prod.mk.injEq] at h;rw [←h.2];simp
         · split at h
           · simp only [Option.some.injEq,Prod.mk.injEq] at h;rw [←h.2];simp
           · split at h
             · simp only [Option.some.injEq,Prod.mk.injEq] at h;rw [←h.2];simp
             · cases h
theorem ZmQ {x:Ac} {ks:List (List Ac)} {hs:List Ac} {n:Nat} {l:List Ac} (hb:ZlS ks hs) (h:brV x ks hs=some (n,some l)):0<l.length:=by
 match ks,hs,hb with
 | [c,a],[c0,a0],hb=>exact Zfj (b0:=a0) (gs_ hb.2.1.h).1 (fun b e=>by cases e) h
 | [c,a,b],[c0,a0,b0],hb=>exact Zfj (a0:=a0) (gs_ hb.2.1.h).1 (fun b1 e=>by injection e with e;subst e;exact (gs_ hb.2.2.1.h).1) h
def ZbK (i e:Nat) (x:Ac):List (List Ac)→List Ac→Option Fd
 | [c,a],[c0,a0]=>if x.a=0∨Zai c0 0=true∨(ZK c=true∧a0.n=0) then some ⟨14,i,e,none,0,1⟩ else if x.a=1 then some ⟨15,i,e,some ((⟨2,0,0,0,0,0⟩:Ac).kid 2::[c,a].flatten),1,1⟩ else none
 | _,_=>none
def Zaj (l:List Ac) (i e:Nat) (x:Ac) (ks:List (List Ac)) (hs:List Ac) (inb:Bool):Option Fd :=
 if x.k=2 then (brV x ks hs).map fun r=>⟨r.1,i,e,r.2,if r.2=none then 0 else 1,1⟩
 else if x.k=3 then ZbK i e x ks hs
 else if x.k=4 then (if hs.head? = some ⟨21,x.a,0,0,0,0⟩ then some ⟨16,i,e,none,0,1⟩ else none)
 else if x.k=1 then (if inb=true then some ⟨17,i,e,some ks.flatten,ks.length,1⟩ else none)
 else if x.k=9 then some ⟨18,i,i+(handF x (l[i+1]?.getD x) (l[i+2]?.getD x)).2,some [(handF x (l[i+1]?.getD x) (l[i+2]?.getD x)).1],1,(handF x (l[i+1]?.getD x) (l[i+2]?.getD x)).2⟩
 else none
structure DOk (l:List Ac) (i:Nat) (x:Ac) (ks:List (List Ac)) (hs:List Ac):Prop where
 if_:x.k=2→ZlS ks hs
 loop:x.k=3→∃c a c0 a0,ks=[c,a]∧hs=[c0,a0]∧c[0]? = some c0∧a[0]? = some a0
 set_:x.k=4→∃c c0,ks=[c]∧hs=[c0]∧c[0]? = some c0
 take:x.k=9→∃y,l[i+1]? = some y∧(y.k≠10→y.k≠12→∃z,l[i+2]? = some z)
theorem Zf {B:Nat} {a b:World} {p:Addr} {u:Value} (h:Below B a b) (hp:B≤p.block):Below B a (b.setCell p u) :=
 ⟨h.os,h.tape,h.output,by simpa [World.setCell] using h.size,fun i hi=>(Below.heap_setCell b p u i (by omega)).trans (h.block i hi)⟩
theorem Rin.slice {w:World} {v:Value} {l:List Ac} (h:Rin w v (some l)):∃oa c,v=.slice oa l.length c:=by
 obtain ⟨oa,c,e,_⟩:=h;exact ⟨oa,c,e⟩
theorem Znv {l:List Ac} {i e:Nat} {x:Ac} {ks:List (List Ac)} {hs:List Ac} {inb:Bool} (h:x.k≠1∧x.k≠2∧x.k≠3∧x.k≠4∧x.k≠9):Zaj l i e x ks hs inb=none:=by
 unfold Zaj;simp [h]
theorem Zni (w:World) (v:Value) (ks:List (List Ac)) (h:KsM w v ks) (hl:ks.length≤262144) (ht:Zh ks≤262144) :
 Calls Try.prog 100 #[v] w fun en w'=>∃u,en=.returned u∧Rin w' u (some ks.flatten)∧Below w.heap.size w w':=by
 obtain ⟨oa,c,rs,rfl,h1,h2,_⟩:=h;exact (ZfU w oa c rs ks h1 h2 hl ht).mono fun en w' ⟨u,e,ho,hb⟩=>⟨u,e,Zgf ho,hb⟩
theorem ZcK {w w':World} {v:Value} {l:List Ac} {g1 g2:Nat} {t:TypeId} {a0 a1 a2 a4 a5 b0 b1 b2 b4 b5:Value} {oa ob:Option Addr} {na ca nb cb:Nat} (h:Rin w v (some l)) (h1:Blk w g1 t #[a0,a1,a2,.slice oa na ca,a4,a5]) (h2:Blk w g2 t #[b0,b1,b2,.slice ob nb cb,b4,b5]) (ho:Only (fun k=>k=g1∨k=g2) w w'):Rin w' v (some l):=by
 obtain ⟨o,c,rfl,hs,hc,hm⟩:=h;refine ⟨o,c,rfl,fun hp=>?_,hc,hm⟩;obtain ⟨ad,e,hb,hx⟩:=hs hp;subst e;obtain ⟨x,hx0⟩:∃x,l[0]? = some x:=⟨_,ge_ hp⟩;obtain ⟨ad9,e9,_,q0,q1,q2,q3,q4,q5⟩:=Zq hs hx0;injection e9 with e9;subst e9;rw [show ad.add (0*6)=ad by simp [Addr.add]] at q1 q2 q3 q4 q5
 have hne:∀(g:Nat) (u0 u1 u2 u4 u5:Value) (o3:Option Addr) (n3 c3:Nat),Blk w g t #[u0,u1,u2,.slice o3 n3 c3,u4,u5]→ad.block≠g:=fun g u0 u1 u2 u4 u5 o3 n3 c3 hg e=>by
  subst e;rw [hg.cell] at q3 q5;rcases Nat.eq_zero_or_pos ad.off with h0 | h0
  · rw [h0] at q3;simp at q3
  · simp only [List.getElem?_toArray] at q5;rw [List.getElem?_eq_none (by simp;omega)] at q5
    cases q5
 have hn1:=hne g1 _ _ _ _ _ _ _ _ h1;have hn2:=hne g2 _ _ _ _ _ _ _ _ h2;refine ⟨ad,rfl,Nat.lt_of_lt_of_le hb ho.size,fun j v hj=>(ho.cell (by rw [Zl];exact hb) (by rw [Zl];rintro (e | e);exact hn1 e;exact hn2 e)).trans (hx j v hj)⟩
theorem ZS {S:Nat→Prop} {a b:World} {p:Addr} {u:Value} (h:Only S a b) (hp:S p.block):Only S a (b.setCell p u):=h.setCell (.inl hp) u
theorem Zm3 {w:World} {v:Value} {l:List Ac} {oa:Option Addr} {c:Nat} (e:v=.slice oa l.length c) (hs:Src w oa l.length (acs l)) (hc:l.length≤c) (hm:c≤maxLen):Rin w v (some l):=⟨oa,c,e,hs,hc,hm⟩
theorem ZiN (wa:World) (ad:Addr) (cl:Nat) (l:List Ac) (i e9:Nat) (x:Ac) (inb:Bool) (sp:List (Nat×Nat)) (hs9:List Ac) (hwa:Ro wa ad cl l) (hs:Z7 l) (hl9:l.length≤131072) (hx:l[i]? = some x) (hk:ZR l x.n.toNat (i+1)=some sp) (he:ZV l i 1=some e9) (hd:DOk l i x (sp.map (sub l)) hs9) :
 Calls Try.prog 77 #[.slice (some ad) l.length cl,.int .i64 (i:Int),.bool inb] wa fun en w'=>Zep w' en (Zaj l i e9 x (sp.map (sub l)) hs9 inb)∧Below wa.heap.size wa w':=by
 have hil:=(gs_ hx).1;have HIN:=Za (show ∀r ∈ sp,r.1<r.2∧r.2≤l.length from fun r hr=>by have:=(ZaJ l _ _ _ hk (by omega)).2 r hr;exact ⟨this.2.1,this.2.2⟩);have HD:=Za hd;have HRV:=Za (show Zh (sp.map (sub l))≤131072 by have:=Zb4 l _ _ _ hk (by omega);omega);have HKN:=Za (show (sp.map (sub l)).length≤262144∧Zh (sp.map (sub l))≤262144 by have h1:=Zb4 l _ _ _ hk (by omega);have h2:=(ZaJ l _ _ _ hk (by omega)).1;have h3:=hs.2 x (List.mem_of_getElem? hx);rw [List.length_map];omega);have HL9:=Za hl9;have HX:=Za hx;have HBA:=Za ((Below.refl wa.heap.size wa).alloc lr_ (.cells #[.int .i64 0,.int .i64 0,.int .i64 0,.slice none 0 0,.int .i64 0,.int .i64 0] 90));have HRB:=Za (Blk.new wa 90 #[.int .i64 0,.int .i64 0,.int .i64 0,.slice none 0 0,.int .i64 0,.int .i64 0]);have h:=hwa.below HBA.out;obtain ⟨V,hV⟩:∃V,Zaj l i e9 x (sp.map (sub l)) hs9 inb=V:=⟨_,rfl⟩;rw [hV];have HV:=Za hV;have HSM:=Za hs;have HWS:=Za (show wa.heap.size<(wa.alloc (.cells #[.int .i64 0,.int .i64 0,.int .i64 0,.slice none 0 0,.int .i64 0,.int .i64 0] 90)).heap.size by simp);generalize hw:wa.alloc (.cells #[.int .i64 0,.int .i64 0,.int .i64 0,.slice none 0 0,.int .i64 0,.int .i64 0] 90)=w at HBA HRB h HWS;have HRO:=Za h;obtain ⟨ad9,e8,hab,hrow⟩:=Zq h.s hx;injection e8 with e8;subst e8;have HROW:=Za (show ZbM w (ad.add (i*6)) x from hrow);have HAB:=Za (show (ad.add (i*6)).block<w.heap.size by rw [Zl];exact hab);have HKD:=Za (fun (W:World) (hb:Below w.heap.size w W)=>ZeC W ad cl l i x sp (h.s.below hb) hs hx hk h.n h.m);have HEN:=Za (fun (W:World) (hb:Below w.heap.size w W)=>Zjy W (some ad) cl l i e9 (h.s.below hb) hs he (Nat.le_of_lt hil));obtain ⟨LL,hLL⟩:∃n,l.length=n:=⟨_,rfl⟩;rw [hLL] at HKD HEN hil;rw [hLL];have HLL:=Za hLL;have hiI:(i:Int)<(LL:Int):=by omega
 have hi0:(0:Int)≤(i:Int):=by omega
 obtain ⟨gr,hgr⟩:∃g,wa.heap.size=g:=⟨_,rfl⟩;rw [hgr] at HRB HBA HWS;have HGR:=Za hgr;clear hwa h hs hl9 hx hk he hd hrow hLL hgr hV;go_enter Try.func77,Try.ntmps77;go_upto_region 1 with fail;simp only [hw,HGR.out];clear hw;refine ZB (JV w (K17 w (.slice (some ad) LL cl) (.int .i64 (i:Int)) (.pointer (some (ad.add (i*6)))) (.agg #[.int .i64 x.k,.int .i64 x.a,.int .i64 x.b,.int .i64 x.c,.int .i64 x.d,.int .i64 x.n]) #[.int .i64 x.k,.int .i64 x.a,.int .i64 x.b,.int .i64 x.c,.int .i64 x.d,.int .i64 x.n] sp.length (sp.map (spv ad)))) [[],[],[0,1],[0,1,2],[],[],[4,5],[],[0,1,2,3,4,5,6,7],[0,1,2,3,4,5,6,7,8]] (by kernel_rfl) (by kernel_rfl) (fun vs=>JV.start vs (fun vs i w hi=>by match i,hi with | _+10,_=>trivial)) (fun vs=>?_);refine Zb rfl (fun S w9 hS hA hD hJ R hR=>?_) (fun K hK=>?_)
 · go_simp;exact hR _ _ (hJ.step hJ.b (fun i hij hi hk=>hk.keep br_ hij (fun _=>by decide)) Ze)
 go_simp;refine hK _ ?_;clear hK K;refine Zb rfl (fun S w9 hS hA hD hJ R hR=>?_) (fun K hK=>?_)
 · go_simp;exact hR _ _ (hJ.step hJ.b (fun i hij hi hk=>hk.keep br_ hij (fun _=>by decide)) Ze)
 go_simp;refine hK _ ?_;clear hK K;refine Zb rfl (fun S w9 hS hA hD hJ R hR=>?_) (fun K hK=>?_)
 · have k0:vs 0=_:=hJ.k 0 (hA 0 (by decide));have k1:vs 1=_:=hJ.k 1 (hA 1 (by decide));simp only [k0,k1];go_simp;exact hR _ _ (hJ.step hJ.b (fun i hij hi hk=>hk.keep br_ hij (fun _=>by decide)) Ze)
 go_simp;refine hK _ ?_;clear hK K;refine Zb rfl (fun S w9 hS hA hD hJ R hR=>?_) (fun K hK=>?_)
 · have k2:vs 2=_:=hJ.k 2 (hA 2 (by decide));obtain ⟨q0,q1,q2,q3,q4,q5⟩:=HROW.out.below HAB.out hJ.b;simp only [k2];go_simp;exact hR _ _ (hJ.step hJ.b (fun i hij hi hk=>hk.keep br_ hij (fun _=>by decide)) Ze)
 go_simp;refine hK _ ?_;clear hK K;refine Zb rfl (fun S w9 hS hA hD hJ R hR=>?_) (fun K hK=>?_)
 · go_simp;exact hR _ _ (hJ.step hJ.b (fun i hij hi hk=>hk.keep br_ hij (fun _=>by decide)) Ze)
 go_simp;refine hK _ ?_;clear hK K;refine Zb rfl (fun S w9 hS hA hD hJ R hR=>?_) (fun K hK=>?_)
 · go_simp;exact hR _ _ (hJ.step hJ.b (fun i hij hi hk=>hk.keep br_ hij (fun _=>by decide)) Ze)
 go_simp;refine hK _ ?_;clear hK K;refine Zb rfl (fun S w9 hS hA hD hJ R hR=>?_) (fun K hK=>?_)
 · have k4:vs 4=_:=hJ.k 4 (hA 4 (by decide));have k5:vs 5=_:=hJ.k 5 (hA 5 (by decide));refine pc_ Zhb (kd_ (HKD.out w9 hJ.b) fun u _ e2 e3=>hR _ _ (hJ.step (hJ.b.trans (e3.mono hJ.b.size)) (fun i hij hi hk=>hk.keep e3 hij (fun _=>by decide)) (by show World.ownsRow _ _ _ _ (upn vs 6 u 6) _ _;rw [Ze];exact Zv e2 hJ.b.size))) rfl ?_;simp [Act.eval,Act.put,k4,k5]
 go_simp;refine hK _ ?_;clear hK K;refine Zb rfl (fun S w9 hS hA hD hJ R hR=>?_) (fun K hK=>?_)
 · have h8:S 8=false:=hD 8 (by decide) (by decide);go_simp;exact hR _ _ (hJ.step (hJ.b.alloc hJ.b.size _) (fun i hij hi hk=>hk.keep ((Below.refl _ w9).alloc lr_ _) hij (fun e=>by subst e;rw [h8] at hi;cases hi)) ⟨w9.heap.size,_,Ze,hJ.b.size,Blk.new w9 49 _,rfl⟩)
 go_simp;refine hK _ ?_;clear hK K;refine Zb rfl (fun S w9 hS hA hD hJ R hR=>?_) (fun K hK=>?_)
 · obtain ⟨g,cs,k7,hg,hblk,hsz⟩:=hJ.k 7 (hA 7 (by decide));have k3:vs 3=_:=hJ.k 3 (hA 3 (by decide))
   obtain ⟨u0,u1,u2,u3,u4,u5,rfl⟩:∃u0 u1 u2 u3 u4 u5,cs=#[u0,u1,u2,u3,u4,u5]:=by
    obtain ⟨l⟩:=cs
    match l,hsz with
    | [u0,u1,u2,u3,u4,u5],_=>exact ⟨u0,u1,u2,u3,u4,u5,rfl⟩
   have hst:=Zcs hblk x;have h9:S 9=false:=hD 9 (by decide) (by decide);have hfin:=hR undef _ (hJ.step (j:=8) (u:=undef) (hJ.b.trans (hst.2.below (fun k hk=>by rw [hk];exact hg) hJ.b.size)) (fun i hij hi hk=>K17.only hk hst.2 hij (fun g2 e=>by rw [k7] at e;cases e;exact ⟨rfl,_,hst.1,rfl⟩) hblk) ⟨g,(Zd (by decide)).trans k7,hg,hst.1⟩);obtain ⟨z0,z1,z2,z3,z4,z5,_⟩:=Zk hblk;have f0:=hblk.frozen 0;have f1:=hblk.frozen 1;have f2:=hblk.frozen 2;have f3:=hblk.frozen 3;have f4:=hblk.frozen 4;have f5:=hblk.frozen 5;simp only [k3,k7];go_simp;exact hfin
 go_simp;refine hK _ ?_;clear hK K;refine Zb rfl (fun S w9 hS hA hD hJ R hR=>?_) (fun K hK=>?_)
 · have k6:w9.ownsRow w.heap.size 26 1 (vs 6) _ _:=hJ.k 6 (hA 6 (by decide));go_simp;exact hR _ _ (hJ.step hJ.b (fun i hij hi hk=>hk.keep br_ hij (fun _=>by decide)) (by show World.ownsRow _ _ _ _ (upn vs 9 (vs 6) 9) _ _;rw [Ze];exact k6))
 go_simp;refine hK _ ?_;clear hK K;refine Z2 (fun W1 hJ=>?_);obtain ⟨gx,k7,hgx,hbx⟩:=hJ.k 8 rfl;have k9:W1.ownsRow w.heap.size 26 1 (vs 9) _ _:=hJ.k 9 rfl;have HBW:=Za hJ.b;have HKO:=Za k9;have HBX:=Za hbx;have HGX:=Za hgx;clear hJ k9 hbx hgx;simp only [k7];clear k7;have hkm:KsM W1 (vs 9) (sp.map (sub l)):=ZeY HRO.out HBW.out HIN.out HKO.out;have HKM:=Za hkm;clear hkm;obtain ⟨vk,hvk⟩:∃v,vs 9=v:=⟨_,rfl⟩;rw [hvk] at HKM;simp only [hvk];clear hvk;have hen:=HEN.out W1 HBW.out;have HEN1:=Za hen;clear hen;go_upto_region 3 with (go_at_call 76;with_reducible refine HEN1.out.mono ?_;rintro en w2 ⟨rfl,mm,rfl⟩;have HB2:=Za (Zc (Below.refl W1.heap.size W1) mm);generalize W1.drewN mm=W2 at HB2 ⊢);have HGF:=Za (show W1.heap.size≤W2.heap.size from HB2.out.size);have HF3:=Za (Blk.new W2 90 #[.int .i64 0,.int .i64 (i:Int),.int .i64 (e9:Int),.slice none 0 0,.int .i64 1,.int .i64 1]);have HB3:=Za (HBW.out.trans ((HB2.out.alloc (by exact HB2.out.size) (.cells #[.int .i64 0,.int .i64 (i:Int),.int .i64 (e9:Int),.slice none 0 0,.int .i64 1,.int .i64 1] 90)).mono HBW.out.size));have HX3:=Za ((HBX.out.below HB2.out HBX.out.lt).alloc (.cells #[.int .i64 0,.int .i64 (i:Int),.int .i64 (e9:Int),.slice none 0 0,.int .i64 1,.int .i64 1] 90));have HLX:=Za HBX.out.lt;have HK3:=Za ((HKM.out.below HB2.out).below ((Below.refl _ W2).alloc lr_ (.cells #[.int .i64 0,.int .i64 (i:Int),.int .i64 (e9:Int),.slice none 0 0,.int .i64 1,.int .i64 1] 90)));generalize W2.alloc (.cells #[.int .i64 0,.int .i64 (i:Int),.int .i64 (e9:Int),.slice none 0 0,.int .i64 1,.int .i64 1] 90)=W3 at HF3 HB3 HX3 HK3 ⊢;obtain ⟨gf,hgf⟩:∃g,W2.heap.size=g:=⟨_,rfl⟩;rw [hgf] at HF3 HGF;simp only [hgf];clear hgf;have HR3:=Za (HRB.out.below HB3.out HWS.out);have HBG:=Za (HBA.out.trans (HB3.out.mono (Nat.le_of_lt HWS.out)));have n1:gr<gx:=by have:=HGX.out;have:=HWS.out;omega
 have n2:gx<gf:=by have:=HGF.out;have:=HLX.out;omega
 have n3:gr≠gx:=by omega
 have n4:gx≠gr:=by omega
 have n5:gr≠gf:=by omega
 have n6:gf≠gr:=by omega
 have n7:gx≠gf:=by omega
 have n8:gf≠gx:=by omega
 have HRES:=Za (show Try.f77.results=#[.cell 6 90,.tmp 7] by rfl);clear HB2 HKO HBX HKM HEN1 HEN HKD HROW HRB HGX HLX HGF
 by_cases k2:x.k=2
 · have hbr:=ZlL W3 x vk _ hs9 HK3.out (HD.out.if_ k2);simp only [Ac.val] at hbr;have HBP:=Za (HD.out.if_ k2);have HE0:=Za (show V=(brV x (sp.map (sub l)) hs9).map (fun r=>⟨r.1,i,e9,r.2,if r.2=none then 0 else 1,1⟩) by rw [←HV.out];simp [Zaj,k2]);have hk2:(x.k == 2)=true:=by simp [k2]
   clear k2;obtain ⟨x0,x1,x2,x3,x4,x5,_⟩:=Zk HX3.out;obtain ⟨f0,f1,f2,f3,f4,f5,hgfl⟩:=Zk HF3.out;obtain ⟨r0,r1,r2,r3,r4,r5,hgrl⟩:=Zk HR3.out;have zf0:=HF3.out.frozen 0;have zf1:=HF3.out.frozen 1;have zf2:=HF3.out.frozen 2;have zf3:=HF3.out.frozen 3;have zf4:=HF3.out.frozen 4;have zf5:=HF3.out.frozen 5;have zr0:=HR3.out.frozen 0;have zr1:=HR3.out.frozen 1;have zr2:=HR3.out.frozen 2;have zr3:=HR3.out.frozen 3;have zr4:=HR3.out.frozen 4;have zr5:=HR3.out.frozen 5;have HBR:=Za hbr;clear hbr
   cases hbv:brV x (sp.map (sub l)) hs9 with
   | none =>
    rw [hbv] at HBR HE0;have HE:=Za (show V=none from HE0.out);go_upto_region 24 with (go_at_call 121;with_reducible refine HBR.out.mono ?_;rintro en W4 ⟨hr8,hb4⟩;simp only [ZbJ] at hr8;subst hr8;clear f0 f1 f2 f3 f4 f5 hgfl zf0 zf1 zf2 zf3 zf4 zf5;have HB4:=Za hb4;have HF4:=Za (HF3.out.below hb4 HF3.out.lt);have HR4:=Za (HR3.out.below hb4 HR3.out.lt);have HG4:=Za (HBG.out.trans (hb4.mono (by have:=HBG.out.size;have:=HGR.out;omega)));clear hb4;obtain ⟨f0,f1,f2,f3,f4,f5,hgfl⟩:=Zk HF4.out;have zf0:=HF4.out.frozen 0;have zf3:=HF4.out.frozen 3;have zf4:=HF4.out.frozen 4);have HF6:=Za (((HF4.out.set_ 0 (.int .i64 0)).set_ 3 (.slice none 0 0)));have HR6:=Za (((HR4.out.far (p:=⟨gf,0,none⟩) n5 (.int .i64 0)).far (p:=⟨gf,3,none⟩) n5 (.slice none 0 0)));have HB6:=Za ((Zf (p:=⟨gf,3,none⟩) (u:=.slice none 0 0) (Zf (p:=⟨gf,0,none⟩) (u:=.int .i64 0) HG4.out (by show gr≤gf;omega)) (by show gr≤gf;omega)));generalize ((W4.setCell ⟨gf,0,none⟩ (.int .i64 0)).setCell ⟨gf,3,none⟩ (.slice none 0 0))=W6 at HF6 HR6 HB6 ⊢;clear x0 x1 x2 x3 x4 x5 f0 f1 f2 f3 f4 f5 hgfl r0 r1 r2 r3 r4 r5 hgrl zf0 zf3 zf4 zr0 zr1 zr2 zr3 zr4 zr5;obtain ⟨f0,f1,f2,f3,f4,f5,hgfl⟩:=Zk HF6.out;have zf4:=HF6.out.frozen 4;go_upto_region 26 with fail;have HF5:=Za ((HF6.out.set_ 4 (.int .i64 0)));have HR5:=Za ((HR6.out.far (p:=⟨gf,4,none⟩) n5 (.int .i64 0)));have HB5:=Za ((Zf (p:=⟨gf,4,none⟩) (u:=.int .i64 0) HB6.out (by show gr≤gf;omega)));generalize (W6.setCell ⟨gf,4,none⟩ (.int .i64 0))=W5 at HF5 HR5 HB5 ⊢
    try clear x0 x1 x2 x3 x4 x5
    try clear r0 r1 r2 r3 r4 r5 hgrl
    try clear f0 f1 f2 f3 f4 f5 hgfl
    obtain ⟨f0,f1,f2,f3,f4,f5,hgfl⟩:=Zk HF5.out;obtain ⟨r0,r1,r2,r3,r4,r5,hgrl⟩:=Zk HR5.out;have zr0:=HR5.out.frozen 0;have zr1:=HR5.out.frozen 1;have zr2:=HR5.out.frozen 2;have zr3:=HR5.out.frozen 3;have zr4:=HR5.out.frozen 4;have zr5:=HR5.out.frozen 5;go_wp2_with fail;refine bodyPost_ret (v:=.tuple #[.agg #[.int .i64 0,.int .i64 (i:Int),.int .i64 (e9:Int),.slice none 0 0,.int .i64 0,.int .i64 1],.bool false]) ?_ rfl ?_
    · simp only [results,HRES.out];go_simp
    have hb9:Below gr wa ((((((W5.setCell ⟨gr,0,none⟩ (.int .i64 0)).setCell ⟨gr,1,none⟩ (.int .i64 (i:Int))).setCell ⟨gr,2,none⟩ (.int .i64 (e9:Int))).setCell ⟨gr,3,none⟩ (.slice none 0 0)).setCell ⟨gr,4,none⟩ (.int .i64 0)).setCell ⟨gr,5,none⟩ (.int .i64 1)):=Zf (Zf (Zf (Zf (Zf (Zf HB5.out (by exact lr_)) (by exact lr_)) (by exact lr_)) (by exact lr_)) (by exact lr_)) (by exact lr_);exact ⟨by rw [HE.out];exact ⟨_,_,_,_,_,_,_,_,rfl⟩,by rw [HGR.out];exact hb9⟩
   | some r9 =>
    obtain ⟨n9,o9⟩:=r9
    cases o9 with
    | none =>
     rw [hbv] at HBR HE0;have HE:=Za (show V=some ⟨n9,i,e9,none,0,1⟩ from HE0.out);go_upto_region 24 with (go_at_call 121;with_reducible refine HBR.out.mono ?_;rintro en W4 ⟨hr8,hb4⟩;simp only [ZbJ,Rin] at hr8;obtain ⟨v8,rfl,rfl⟩:=hr8;clear f0 f1 f2 f3 f4 f5 hgfl zf0 zf1 zf2 zf3 zf4 zf5;have HB4:=Za hb4;have HF4:=Za (HF3.out.below hb4 HF3.out.lt);have HR4:=Za (HR3.out.below hb4 HR3.out.lt);have HG4:=Za (HBG.out.trans (hb4.mono (by have:=HBG.out.size;have:=HGR.out;omega)));clear hb4;obtain ⟨f0,f1,f2,f3,f4,f5,hgfl⟩:=Zk HF4.out;have zf0:=HF4.out.frozen 0;have zf3:=HF4.out.frozen 3;have zf4:=HF4.out.frozen 4);have HF6:=Za (((HF4.out.set_ 0 (.int .i64 (n9:Int))).set_ 3 (.slice none 0 0)));have HR6:=Za (((HR4.out.far (p:=⟨gf,0,none⟩) n5 (.int .i64 (n9:Int))).far (p:=⟨gf,3,none⟩) n5 (.slice none 0 0)));have HB6:=Za ((Zf (p:=⟨gf,3,none⟩) (u:=.slice none 0 0) (Zf (p:=⟨gf,0,none⟩) (u:=.int .i64 (n9:Int)) HG4.out (by show gr≤gf;omega)) (by show gr≤gf;omega)));generalize ((W4.setCell ⟨gf,0,none⟩ (.int .i64 (n9:Int))).setCell ⟨gf,3,none⟩ (.slice none 0 0))=W6 at HF6 HR6 HB6 ⊢;clear x0 x1 x2 x3 x4 x5 f0 f1 f2 f3 f4 f5 hgfl r0 r1 r2 r3 r4 r5 hgrl zf0 zf3 zf4 zr0 zr1 zr2 zr3 zr4 zr5;obtain ⟨f0,f1,f2,f3,f4,f5,hgfl⟩:=Zk HF6.out;have zf4:=HF6.out.frozen 4;go_upto_region 26 with fail;have HF5:=Za ((HF6.out.set_ 4 (.int .i64 0)));have HR5:=Za ((HR6.out.far (p:=⟨gf,4,none⟩) n5 (.int .i64 0)));have HB5:=Za ((Zf (p:=⟨gf,4,none⟩) (u:=.int .i64 0) HB6.out (by show gr≤gf;omega)));generalize (W6.setCell ⟨gf,4,none⟩ (.int .i64 0))=W5 at HF5 HR5 HB5 ⊢
     try clear x0 x1 x2 x3 x4 x5
     try clear r0 r1 r2 r3 r4 r5 hgrl
     try clear f0 f1 f2 f3 f4 f5 hgfl
     obtain ⟨f0,f1,f2,f3,f4,f5,hgfl⟩:=Zk HF5.out;obtain ⟨r0,r1,r2,r3,r4,r5,hgrl⟩:=Zk HR5.out;have zr0:=HR5.out.frozen 0;have zr1:=HR5.out.frozen 1;have zr2:=HR5.out.frozen 2;have zr3:=HR5.out.frozen 3;have zr4:=HR5.out.frozen 4;have zr5:=HR5.out.frozen 5;go_wp2_with fail;refine bodyPost_ret (v:=.tuple #[.agg #[.int .i64 (n9:Int),.int .i64 (i:Int),.int .i64 (e9:Int),.slice none 0 0,.int .i64 0,.int .i64 1],.bool true]) ?_ rfl ?_
     · simp only [results,HRES.out];go_simp
     have hb9:Below gr wa ((((((W5.setCell ⟨gr,0,none⟩ (.int .i64 (n9:Int))).setCell ⟨gr,1,none⟩ (.int .i64 (i:Int))).setCell ⟨gr,2,none⟩ (.int .i64 (e9:Int))).setCell ⟨gr,3,none⟩ (.slice none 0 0)).setCell ⟨gr,4,none⟩ (.int .i64 0)).setCell ⟨gr,5,none⟩ (.int .i64 1)):=Zf (Zf (Zf (Zf (Zf (Zf HB5.out (by exact lr_)) (by exact lr_)) (by exact lr_)) (by exact lr_)) (by exact lr_)) (by exact lr_);exact ⟨by rw [HE.out];exact ⟨_,rfl,_,rfl,rfl⟩,by rw [HGR.out];exact hb9⟩
    | some l9 =>
     rw [hbv] at HBR HE0;have HE:=Za (show V=some ⟨n9,i,e9,some l9,1,1⟩ by rw [HE0.out];rfl);have hlp:=ZmQ HBP.out hbv;obtain ⟨NL,hNL⟩:∃n,l9.length=n:=⟨_,rfl⟩;rw [hNL] at hlp;have hnl:((NL:Int) == 0)=false:=by simp;omega
     have HNL:=Za hNL;clear hNL hlp hbv;go_upto_region 24 with (go_at_call 121;with_reducible refine HBR.out.mono ?_;rintro en W4 ⟨hr8,hb4⟩;simp only [ZbJ,Rin] at hr8;obtain ⟨v8,e8,oa8,c8,e7,hs8,hc8,hm8⟩:=hr8;have HRN:=Za (Zm3 e7 hs8 hc8 hm8);rw [HNL.out] at e7;subst e7;subst e8;clear hs8 hc8 hm8;clear f0 f1 f2 f3 f4 f5 hgfl zf0 zf1 zf2 zf3 zf4 zf5;have HB4:=Za hb4;have HF4:=Za (HF3.out.below hb4 HF3.out.lt);have HR4:=Za (HR3.out.below hb4 HR3.out.lt);have HG4:=Za (HBG.out.trans (hb4.mono (by have:=HBG.out.size;have:=HGR.out;omega)));clear hb4;obtain ⟨f0,f1,f2,f3,f4,f5,hgfl⟩:=Zk HF4.out;have zf0:=HF4.out.frozen 0;have zf3:=HF4.out.frozen 3;have zf4:=HF4.out.frozen 4);have HO6:=Za (show Only (fun k=>k=gf∨k=gr) W4 ((W4.setCell ⟨gf,0,none⟩ (.int .i64 (n9:Int))).setCell ⟨gf,3,none⟩ (.slice oa8 NL c8)) from ZS (p:=⟨gf,3,none⟩) (ZS (p:=⟨gf,0,none⟩) (Only.refl _ W4) (.inl rfl)) (.inl rfl));have HF6:=Za (((HF4.out.set_ 0 (.int .i64 (n9:Int))).set_ 3 (.slice oa8 NL c8)));have HR6:=Za (((HR4.out.far (p:=⟨gf,0,none⟩) n5 (.int .i64 (n9:Int))).far (p:=⟨gf,3,none⟩) n5 (.slice oa8 NL c8)));have HB6:=Za ((Zf (p:=⟨gf,3,none⟩) (u:=.slice oa8 NL c8) (Zf (p:=⟨gf,0,none⟩) (u:=.int .i64 (n9:Int)) HG4.out (by show gr≤gf;omega)) (by show gr≤gf;omega)));generalize ((W4.setCell ⟨gf,0,none⟩ (.int .i64 (n9:Int))).setCell ⟨gf,3,none⟩ (.slice oa8 NL c8))=W6 at HF6 HR6 HB6 HO6 ⊢;clear x0 x1 x2 x3 x4 x5 f0 f1 f2 f3 f4 f5 hgfl r0 r1 r2 r3 r4 r5 hgrl zf0 zf3 zf4 zr0 zr1 zr2 zr3 zr4 zr5;obtain ⟨f0,f1,f2,f3,f4,f5,hgfl⟩:=Zk HF6.out;have zf4:=HF6.out.frozen 4;go_upto_region 26 with fail;have HF5:=Za (HF6.out);have HR5:=Za (HR6.out);have HB5:=Za (HB6.out);generalize W6=W5 at HF5 HR5 HB5 HO6 ⊢;have HFIN:=Za (ZcK HRN.out HF4.out HR4.out (ZS (p:=⟨gr,5,none⟩) (ZS (p:=⟨gr,4,none⟩) (ZS (p:=⟨gr,3,none⟩) (ZS (p:=⟨gr,2,none⟩) (ZS (p:=⟨gr,1,none⟩) (ZS (p:=⟨gr,0,none⟩) HO6.out (.inr rfl)) (.inr rfl)) (.inr rfl)) (.inr rfl)) (.inr rfl)) (.inr rfl):Only (fun k=>k=gf∨k=gr) W4 ((((((W5.setCell ⟨gr,0,none⟩ (.int .i64 (n9:Int))).setCell ⟨gr,1,none⟩ (.int .i64 (i:Int))).setCell ⟨gr,2,none⟩ (.int .i64 (e9:Int))).setCell ⟨gr,3,none⟩ (.slice oa8 NL c8)).setCell ⟨gr,4,none⟩ (.int .i64 1)).setCell ⟨gr,5,none⟩ (.int .i64 1))))
     try clear x0 x1 x2 x3 x4 x5
     try clear r0 r1 r2 r3 r4 r5 hgrl
     try clear f0 f1 f2 f3 f4 f5 hgfl
     obtain ⟨f0,f1,f2,f3,f4,f5,hgfl⟩:=Zk HF5.out;obtain ⟨r0,r1,r2,r3,r4,r5,hgrl⟩:=Zk HR5.out;have zr0:=HR5.out.frozen 0;have zr1:=HR5.out.frozen 1;have zr2:=HR5.out.frozen 2;have zr3:=HR5.out.frozen 3;have zr4:=HR5.out.frozen 4;have zr5:=HR5.out.frozen 5;go_wp2_with fail;refine bodyPost_ret (v:=.tuple #[.agg #[.int .i64 (n9:Int),.int .i64 (i:Int),.int .i64 (e9:Int),.slice oa8 NL c8,.int .i64 1,.int .i64 1],.bool true]) ?_ rfl ?_
     · simp only [results,HRES.out];go_simp
     have hb9:Below gr wa ((((((W5.setCell ⟨gr,0,none⟩ (.int .i64 (n9:Int))).setCell ⟨gr,1,none⟩ (.int .i64 (i:Int))).setCell ⟨gr,2,none⟩ (.int .i64 (e9:Int))).setCell ⟨gr,3,none⟩ (.slice oa8 NL c8)).setCell ⟨gr,4,none⟩ (.int .i64 1)).setCell ⟨gr,5,none⟩ (.int .i64 1)):=Zf (Zf (Zf (Zf (Zf (Zf HB5.out (by exact lr_)) (by exact lr_)) (by exact lr_)) (by exact lr_)) (by exact lr_)) (by exact lr_);exact ⟨by rw [HE.out];exact ⟨_,rfl,_,rfl,HFIN.out⟩,by rw [HGR.out];exact hb9⟩
 by_cases k3:x.k=3
 · obtain ⟨c,a,c0,a0,hks,hhs,hc0,ha0⟩:=HD.out.loop k3;have HE0:=Za (show V=ZbK i e9 x [c,a] [c0,a0] by rw [←HV.out,hks,hhs];simp [Zaj,k3]);have HKN2:=HKN;rw [hks] at HK3 HKN2;have hkm:=HK3.out;obtain ⟨ak,ck,e7,hakb,hck,hxk⟩:=hkm.at_ (by simp);subst e7;have p0:=(gs_ hc0).1;have p1:=(gs_ ha0).1;obtain ⟨pc,cc,qk0,rk0⟩:=hxk 0 c rfl p0;obtain ⟨pa,ca,qk1,rk1⟩:=hxk 1 a rfl p1;rw [show ak.add 0=ak by simp [Addr.add]] at qk0;rw [show ak.add 1=⟨ak.block,ak.off+1,none⟩ by simp [Addr.add]] at qk1;simp only [List.length_cons,List.length_nil,Nat.zero_add,Nat.reduceAdd] at hck ⊢;obtain ⟨a9,e9x,hpab,_,_,_,_,_,q5⟩:=Zq rk1.s ha0;injection e9x with e9x;subst e9x;rw [show pa.add (0*6)=pa by simp [Addr.add]] at q5;obtain ⟨t0,ht0⟩:∃b,Zai c0 0=b:=⟨_,rfl⟩;obtain ⟨hm,hhm⟩:∃b,ZK c=b:=⟨_,rfl⟩;have HT:=Za (fun W hW=>Zbc rk0 hc0 0 ht0 W hW);have HH:=Za (fun W hW=>Zb5 rk0 (by have:=HKN2.out.2;simp [Zh] at this;omega) hhm W hW);have hrw:=Zd9;obtain ⟨LC,hLC⟩:∃n,c.length=n:=⟨_,rfl⟩;obtain ⟨LA,hLA⟩:∃n,a.length=n:=⟨_,rfl⟩;rw [hLC] at qk0 p0 HT HH;rw [hLA] at qk1 p1;have hp0:(0:Int)<(LC:Int):=by omega
   have hp1:(0:Int)<(LA:Int):=by omega
   have Q0:=Za qk0;have Q1:=Za qk1;have Q5:=Za q5;have HPB:=Za (And.intro hakb hpab);have HL2:=Za (show Zh [c,a]≤200000 by have:=HKN.out.2;rw [hks] at this;have h2:=HRV.out;rw [hks] at h2;omega);have HT0:=Za ht0;have HHM:=Za hhm;have hk2:(x.k == 2)=false:=by simp [k3]
   have hk3:(x.k == 3)=true:=by simp [k3]
   clear k2 k3 hks hhs hkm hxk rk0 rk1 hLC hLA hc0 ha0 ht0 hhm hrw;obtain ⟨x0,x1,x2,x3,x4,x5,_⟩:=Zk HX3.out;obtain ⟨f0,f1,f2,f3,f4,f5,hgfl⟩:=Zk HF3.out;obtain ⟨r0,r1,r2,r3,r4,r5,hgrl⟩:=Zk HR3.out;have zf0:=HF3.out.frozen 0;have zf1:=HF3.out.frozen 1;have zf2:=HF3.out.frozen 2;have zf3:=HF3.out.frozen 3;have zf4:=HF3.out.frozen 4;have zf5:=HF3.out.frozen 5;have zr0:=HR3.out.frozen 0;have zr1:=HR3.out.frozen 1;have zr2:=HR3.out.frozen 2;have zr3:=HR3.out.frozen 3;have zr4:=HR3.out.frozen 4;have zr5:=HR3.out.frozen 5
   by_cases ha0:x.a=0
   · have hab0:(x.a == 0)=true:=by simp [ha0]
     have HE:=Za (show V=some ⟨14,i,e9,none,0,1⟩ by rw [HE0.out];simp [ZbK,ha0]);clear ha0;go_upto_region 26 with (fail);have HF5:=Za (((HF3.out.set_ 0 (.int .i64 14)).set_ 4 (.int .i64 0)));have HR5:=Za (((HR3.out.far (p:=⟨gf,0,none⟩) n5 (.int .i64 14)).far (p:=⟨gf,4,none⟩) n5 (.int .i64 0)));have HB5:=Za ((Zf (p:=⟨gf,4,none⟩) (u:=.int .i64 0) (Zf (p:=⟨gf,0,none⟩) (u:=.int .i64 14) HBG.out (by show gr≤gf;omega)) (by show gr≤gf;omega)));generalize ((W3.setCell ⟨gf,0,none⟩ (.int .i64 14)).setCell ⟨gf,4,none⟩ (.int .i64 0))=W5 at HF5 HR5 HB5 ⊢
     try clear x0 x1 x2 x3 x4 x5
     try clear r0 r1 r2 r3 r4 r5 hgrl
     try clear f0 f1 f2 f3 f4 f5 hgfl
     obtain ⟨f0,f1,f2,f3,f4,f5,hgfl⟩:=Zk HF5.out;obtain ⟨r0,r1,r2,r3,r4,r5,hgrl⟩:=Zk HR5.out;have zr0:=HR5.out.frozen 0;have zr1:=HR5.out.frozen 1;have zr2:=HR5.out.frozen 2;have zr3:=HR5.out.frozen 3;have zr4:=HR5.out.frozen 4;have zr5:=HR5.out.frozen 5;go_wp2_with fail;refine bodyPost_ret (v:=.tuple #[.agg #[.int .i64 14,.int .i64 (i:Int),.int .i64 (e9:Int),.slice none 0 0,.int .i64 0,.int .i64 1],.bool true]) ?_ rfl ?_
     · simp only [results,HRES.out];go_simp
     have hb9:Below gr wa ((((((W5.setCell ⟨gr,0,none⟩ (.int .i64 14)).setCell ⟨gr,1,none⟩ (.int .i64 (i:Int))).setCell ⟨gr,2,none⟩ (.int .i64 (e9:Int))).setCell ⟨gr,3,none⟩ (.slice none 0 0)).setCell ⟨gr,4,none⟩ (.int .i64 0)).setCell ⟨gr,5,none⟩ (.int .i64 1)):=Zf (Zf (Zf (Zf (Zf (Zf HB5.out (by exact lr_)) (by exact lr_)) (by exact lr_)) (by exact lr_)) (by exact lr_)) (by exact lr_);exact ⟨by rw [HE.out];exact ⟨_,rfl,_,rfl,rfl⟩,by rw [HGR.out];exact hb9⟩
   have hab0:(x.a == 0)=false:=by simp [ha0]
   cases t0 with
   | true =>
    have HE:=Za (show V=some ⟨14,i,e9,none,0,1⟩ by rw [HE0.out];simp [ZbK,HT0.out]);clear ha0;go_upto_region 26 with (go_at_call 122;with_reducible refine (HT.out W3 br_).mono ?_;rintro en w8 ⟨rfl,h8⟩;have h7:=h8.symm;clear h8;subst h7);have HF5:=Za (((HF3.out.set_ 0 (.int .i64 14)).set_ 4 (.int .i64 0)));have HR5:=Za (((HR3.out.far (p:=⟨gf,0,none⟩) n5 (.int .i64 14)).far (p:=⟨gf,4,none⟩) n5 (.int .i64 0)));have HB5:=Za ((Zf (p:=⟨gf,4,none⟩) (u:=.int .i64 0) (Zf (p:=⟨gf,0,none⟩) (u:=.int .i64 14) HBG.out (by show gr≤gf;omega)) (by show gr≤gf;omega)));generalize ((W3.setCell ⟨gf,0,none⟩ (.int .i64 14)).setCell ⟨gf,4,none⟩ (.int .i64 0))=W5 at HF5 HR5 HB5 ⊢
    try clear x0 x1 x2 x3 x4 x5
    try clear r0 r1 r2 r3 r4 r5 hgrl
    try clear f0 f1 f2 f3 f4 f5 hgfl
    obtain ⟨f0,f1,f2,f3,f4,f5,hgfl⟩:=Zk HF5.out;obtain ⟨r0,r1,r2,r3,r4,r5,hgrl⟩:=Zk HR5.out;have zr0:=HR5.out.frozen 0;have zr1:=HR5.out.frozen 1;have zr2:=HR5.out.frozen 2;have zr3:=HR5.out.frozen 3;have zr4:=HR5.out.frozen 4;have zr5:=HR5.out.frozen 5;go_wp2_with fail;refine bodyPost_ret (v:=.tuple #[.agg #[.int .i64 14,.int .i64 (i:Int),.int .i64 (e9:Int),.slice none 0 0,.int .i64 0,.int .i64 1],.bool true]) ?_ rfl ?_
    · simp only [results,HRES.out];go_simp
    have hb9:Below gr wa ((((((W5.setCell ⟨gr,0,none⟩ (.int .i64 14)).setCell ⟨gr,1,none⟩ (.int .i64 (i:Int))).setCell ⟨gr,2,none⟩ (.int .i64 (e9:Int))).setCell ⟨gr,3,none⟩ (.slice none 0 0)).setCell ⟨gr,4,none⟩ (.int .i64 0)).setCell ⟨gr,5,none⟩ (.int .i64 1)):=Zf (Zf (Zf (Zf (Zf (Zf HB5.out (by exact lr_)) (by exact lr_)) (by exact lr_)) (by exact lr_)) (by exact lr_)) (by exact lr_);exact ⟨by rw [HE.out];exact ⟨_,rfl,_,rfl,rfl⟩,by rw [HGR.out];exact hb9⟩
   | false =>
    go_upto_region 10 with (go_at_call 122;with_reducible refine (HT.out W3 br_).mono ?_;rintro en w8 ⟨rfl,h8⟩;have h7:=h8.symm;clear h8;subst h7)
    cases hm with
    | false =>
     go_upto_region 12 with (go_at_call 118;with_reducible refine (HH.out W3 br_).mono ?_;rintro en W4 ⟨rfl,hb4⟩;clear f0 f1 f2 f3 f4 f5 hgfl zf0 zf1 zf2 zf3 zf4 zf5 x0 x1 x2 x3 x4 x5 qk0 qk1 q5;have HB4:=Za hb4;have HF4:=Za (HF3.out.below hb4 HF3.out.lt);have HX4:=Za (HX3.out.below hb4 HX3.out.lt);have HR4:=Za (HR3.out.below hb4 HR3.out.lt);have HK4:=Za (HK3.out.below hb4);have HG4:=Za (HBG.out.trans (hb4.mono (by have:=HBG.out.size;have:=HGR.out;omega)));have qk0:=(hb4.cell (p:=ak) HPB.out.1).trans Q0.out;have qk1:=(hb4.cell (p:=⟨ak.block,ak.off+1,none⟩) HPB.out.1).trans Q1.out;have q5:=(hb4.cell (p:=⟨pa.block,pa.off+5,none⟩) HPB.out.2).trans Q5.out;clear hb4;obtain ⟨f0,f1,f2,f3,f4,f5,hgfl⟩:=Zk HF4.out;obtain ⟨x0,x1,x2,x3,x4,x5,_⟩:=Zk HX4.out;have zf0:=HF4.out.frozen 0;have zf3:=HF4.out.frozen 3;have zf4:=HF4.out.frozen 4)
     by_cases ha1:x.a=1
     · have hab1:(x.a == 1)=true:=by simp [ha1]
       have HE:=Za (show V=some ⟨15,i,e9,some ((⟨2,0,0,0,0,0⟩:Ac).kid 2::[c,a].flatten),1,1⟩ by rw [HE0.out];simp [ZbK,ha0,HT0.out,HHM.out,ha1]);have hrw:=Zd9 W4 ⟨2,0,0,0,0,0⟩ _ _ HK4.out (by simp) HL2.out;simp only [Ac.val,List.length_cons,List.length_nil,Nat.zero_add,Nat.reduceAdd] at hrw;obtain ⟨NF,hNF⟩:∃n,((⟨2,0,0,0,0,0⟩:Ac).kid 2::[c,a].flatten).length=n:=⟨_,rfl⟩;have hnf:((NF:Int) == 0)=false:=by simp;rw [←hNF];simp
       have HNF:=Za hNF;have HRW:=Za hrw;clear hrw hNF;go_upto_region 24 with (go_at_call 120;with_reducible refine HRW.out.mono ?_;rintro en W7 ⟨u8,rfl,hr8,hb5⟩;have HRN:=Za hr8;obtain ⟨oa8,c8,e7⟩:=hr8.slice;rw [HNF.out] at e7;subst e7;clear hr8;clear f0 f1 f2 f3 f4 f5 hgfl zf0 zf3 zf4;have HB5:=Za hb5;have HF7:=Za (HF4.out.below hb5 HF4.out.lt);have HR7:=Za (HR4.out.below hb5 HR4.out.lt);have HG7:=Za (HG4.out.trans (hb5.mono (by have:=HG4.out.size;have:=HGR.out;omega)));clear hb5;obtain ⟨f0,f1,f2,f3,f4,f5,hgfl⟩:=Zk HF7.out;have zf0:=HF7.out.frozen 0;have zf3:=HF7.out.frozen 3;have zf4:=HF7.out.frozen 4);have HO6:=Za (show Only (fun k=>k=gf∨k=gr) W7 ((W7.setCell ⟨gf,0,none⟩ (.int .i64 15)).setCell ⟨gf,3,none⟩ (.slice oa8 NF c8)) from ZS (p:=⟨gf,3,none⟩) (ZS (p:=⟨gf,0,none⟩) (Only.refl _ W7) (.inl rfl)) (.inl rfl));have HF6:=Za (((HF7.out.set_ 0 (.int .i64 15)).set_ 3 (.slice oa8 NF c8)));have HR6:=Za (((HR7.out.far (p:=⟨gf,0,none⟩) n5 (.int .i64 15)).far (p:=⟨gf,3,none⟩) n5 (.slice oa8 NF c8)));have HB6:=Za ((Zf (p:=⟨gf,3,none⟩) (u:=.slice oa8 NF c8) (Zf (p:=⟨gf,0,none⟩) (u:=.int .i64 15) HG7.out (by show gr≤gf;omega)) (by show gr≤gf;omega)));generalize ((W7.setCell ⟨gf,0,none⟩ (.int .i64 15)).setCell ⟨gf,3,none⟩ (.slice oa8 NF c8))=W6 at HF6 HR6 HB6 HO6 ⊢;clear x0 x1 x2 x3 x4 x5 f0 f1 f2 f3 f4 f5 hgfl zf0 zf3 zf4;obtain ⟨f0,f1,f2,f3,f4,f5,hgfl⟩:=Zk HF6.out;go_upto_region 26 with fail;have HF5:=Za (HF6.out);have HR5:=Za (HR6.out);have HB5:=Za (HB6.out);generalize W6=W5 at HF5 HR5 HB5 HO6 ⊢;have HFIN:=Za (ZcK HRN.out HF7.out HR7.out (ZS (p:=⟨gr,5,none⟩) (ZS (p:=⟨gr,4,none⟩) (ZS (p:=⟨gr,3,none⟩) (ZS (p:=⟨gr,2,none⟩) (ZS (p:=⟨gr,1,none⟩) (ZS (p:=⟨gr,0,none⟩) HO6.out (.inr rfl)) (.inr rfl)) (.inr rfl)) (.inr rfl)) (.inr rfl)) (.inr rfl):Only (fun k=>k=gf∨k=gr) W7 ((((((W5.setCell ⟨gr,0,none⟩ (.int .i64 15)).setCell ⟨gr,1,none⟩ (.int .i64 (i:Int))).setCell ⟨gr,2,none⟩ (.int .i64 (e9:Int))).setCell ⟨gr,3,none⟩ (.slice oa8 NF c8)).setCell ⟨gr,4,none⟩ (.int .i64 1)).setCell ⟨gr,5,none⟩ (.int .i64 1))))
       try clear x0 x1 x2 x3 x4 x5
       try clear r0 r1 r2 r3 r4 r5 hgrl
       try clear f0 f1 f2 f3 f4 f5 hgfl
       obtain ⟨f0,f1,f2,f3,f4,f5,hgfl⟩:=Zk HF5.out;obtain ⟨r0,r1,r2,r3,r4,r5,hgrl⟩:=Zk HR5.out;have zr0:=HR5.out.frozen 0;have zr1:=HR5.out.frozen 1;have zr2:=HR5.out.frozen 2;have zr3:=HR5.out.frozen 3;have zr4:=HR5.out.frozen 4;have zr5:=HR5.out.frozen 5;go_wp2_with fail;refine bodyPost_ret (v:=.tuple #[.agg #[.int .i64 15,.int .i64 (i:Int),.int .i64 (e9:Int),.slice oa8 NF c8,.int .i64 1,.int .i64 1],.bool true]) ?_ rfl ?_
       · simp only [results,HRES.out];go_simp
       have hb9:Below gr wa ((((((W5.setCell ⟨gr,0,none⟩ (.int .i64 15)).setCell ⟨gr,1,none⟩ (.int .i64 (i:Int))).setCell ⟨gr,2,none⟩ (.int .i64 (e9:Int))).setCell ⟨gr,3,none⟩ (.slice oa8 NF c8)).setCell ⟨gr,4,none⟩ (.int .i64 1)).setCell ⟨gr,5,none⟩ (.int .i64 1)):=Zf (Zf (Zf (Zf (Zf (Zf HB5.out (by exact lr_)) (by exact lr_)) (by exact lr_)) (by exact lr_)) (by exact lr_)) (by exact lr_);exact ⟨by rw [HE.out];exact ⟨_,rfl,_,rfl,HFIN.out⟩,by rw [HGR.out];exact hb9⟩
     · have hab1:(x.a == 1)=false:=by simp [ha1]
       have HE:=Za (show V=none by rw [HE0.out];simp [ZbK,ha0,HT0.out,HHM.out,ha1]);go_upto_region 26 with fail;have HF5:=Za ((HF4.out.set_ 4 (.int .i64 0)));have HR5:=Za ((HR4.out.far (p:=⟨gf,4,none⟩) n5 (.int .i64 0)));have HB5:=Za ((Zf (p:=⟨gf,4,none⟩) (u:=.int .i64 0) HG4.out (by show gr≤gf;omega)));generalize (W4.setCell ⟨gf,4,none⟩ (.int .i64 0))=W5 at HF5 HR5 HB5 ⊢
       try clear x0 x1 x2 x3 x4 x5
       try clear r0 r1 r2 r3 r4 r5 hgrl
       try clear f0 f1 f2 f3 f4 f5 hgfl
       obtain ⟨f0,f1,f2,f3,f4,f5,hgfl⟩:=Zk HF5.out;obtain ⟨r0,r1,r2,r3,r4,r5,hgrl⟩:=Zk HR5.out;have zr0:=HR5.out.frozen 0;have zr1:=HR5.out.frozen 1;have zr2:=HR5.out.frozen 2;have zr3:=HR5.out.frozen 3;have zr4:=HR5.out.frozen 4;have zr5:=HR5.out.frozen 5;go_wp2_with fail;refine bodyPost_ret (v:=.tuple #[.agg #[.int .i64 0,.int .i64 (i:Int),.int .i64 (e9:Int),.slice none 0 0,.int .i64 0,.int .i64 1],.bool false]) ?_ rfl ?_
       · simp only [results,HRES.out];go_simp
       have hb9:Below gr wa ((((((W5.setCell ⟨gr,0,none⟩ (.int .i64 0)).setCell ⟨gr,1,none⟩ (.int .i64 (i:Int))).setCell ⟨gr,2,none⟩ (.int .i64 (e9:Int))).setCell ⟨gr,3,none⟩ (.slice none 0 0)).setCell ⟨gr,4,none⟩ (.int .i64 0)).setCell ⟨gr,5,none⟩ (.int .i64 1)):=Zf (Zf (Zf (Zf (Zf (Zf HB5.out (by exact lr_)) (by exact lr_)) (by exact lr_)) (by exact lr_)) (by exact lr_)) (by exact lr_);exact ⟨by rw [HE.out];exact ⟨_,_,_,_,_,_,_,_,rfl⟩,by rw [HGR.out];exact hb9⟩
    | true =>
     by_cases hn0:a0.n=0
     · have hnb:(a0.n == 0)=true:=by simp [hn0]
       go_upto_region 11 with (go_at_call 118;with_reducible refine (HH.out W3 br_).mono ?_;rintro en W4 ⟨rfl,hb4⟩;clear f0 f1 f2 f3 f4 f5 hgfl zf0 zf1 zf2 zf3 zf4 zf5 x0 x1 x2 x3 x4 x5 qk0 qk1 q5;have HB4:=Za hb4;have HF4:=Za (HF3.out.below hb4 HF3.out.lt);have HX4:=Za (HX3.out.below hb4 HX3.out.lt);have HR4:=Za (HR3.out.below hb4 HR3.out.lt);have HK4:=Za (HK3.out.below hb4);have HG4:=Za (HBG.out.trans (hb4.mono (by have:=HBG.out.size;have:=HGR.out;omega)));have qk0:=(hb4.cell (p:=ak) HPB.out.1).trans Q0.out;have qk1:=(hb4.cell (p:=⟨ak.block,ak.off+1,none⟩) HPB.out.1).trans Q1.out;have q5:=(hb4.cell (p:=⟨pa.block,pa.off+5,none⟩) HPB.out.2).trans Q5.out;clear hb4;obtain ⟨f0,f1,f2,f3,f4,f5,hgfl⟩:=Zk HF4.out;obtain ⟨x0,x1,x2,x3,x4,x5,_⟩:=Zk HX4.out;have zf0:=HF4.out.frozen 0;have zf3:=HF4.out.frozen 3;have zf4:=HF4.out.frozen 4);have HE:=Za (show V=some ⟨14,i,e9,none,0,1⟩ by rw [HE0.out];simp [ZbK,HHM.out,hn0]);clear hn0 ha0;go_upto_region 26 with (fail);have HF5:=Za (((HF4.out.set_ 0 (.int .i64 14)).set_ 4 (.int .i64 0)));have HR5:=Za (((HR4.out.far (p:=⟨gf,0,none⟩) n5 (.int .i64 14)).far (p:=⟨gf,4,none⟩) n5 (.int .i64 0)));have HB5:=Za ((Zf (p:=⟨gf,4,none⟩) (u:=.int .i64 0) (Zf (p:=⟨gf,0,none⟩) (u:=.int .i64 14) HG4.out (by show gr≤gf;omega)) (by show gr≤gf;omega)));generalize ((W4.setCell ⟨gf,0,none⟩ (.int .i64 14)).setCell ⟨gf,4,none⟩ (.int .i64 0))=W5 at HF5 HR5 HB5 ⊢
       try clear x0 x1 x2 x3 x4 x5
       try clear r0 r1 r2 r3 r4 r5 hgrl
       try clear f0 f1 f2 f3 f4 f5 hgfl
       obtain ⟨f0,f1,f2,f3,f4,f5,hgfl⟩:=Zk HF5.out;obtain ⟨r0,r1,r2,r3,r4,r5,hgrl⟩:=Zk HR5.out;have zr0:=HR5.out.frozen 0;have zr1:=HR5.out.frozen 1;have zr2:=HR5.out.frozen 2;have zr3:=HR5.out.frozen 3;have zr4:=HR5.out.frozen 4;have zr5:=HR5.out.frozen 5;go_wp2_with fail;refine bodyPost_ret (v:=.tuple #[.agg #[.int .i64 14,.int .i64 (i:Int),.int .i64 (e9:Int),.slice none 0 0,.int .i64 0,.int .i64 1],.bool true]) ?_ rfl ?_
       · simp only [results,HRES.out];go_simp
       have hb9:Below gr wa ((((((W5.setCell ⟨gr,0,none⟩ (.int .i64 14)).setCell ⟨gr,1,none⟩ (.int .i64 (i:Int))).setCell ⟨gr,2,none⟩ (.int .i64 (e9:Int))).setCell ⟨gr,3,none⟩ (.slice none 0 0)).setCell ⟨gr,4,none⟩ (.int .i64 0)).setCell ⟨gr,5,none⟩ (.int .i64 1)):=Zf (Zf (Zf (Zf (Zf (Zf HB5.out (by exact lr_)) (by exact lr_)) (by exact lr_)) (by exact lr_)) (by exact lr_)) (by exact lr_);exact ⟨by rw [HE.out];exact ⟨_,rfl,_,rfl,rfl⟩,by rw [HGR.out];exact hb9⟩
     · have hnb:(a0.n == 0)=false:=by simp [hn0]
       go_upto_region 12 with (go_at_call 118;with_reducible refine (HH.out W3 br_).mono ?_;rintro en W4 ⟨rfl,hb4⟩;clear f0 f1 f2 f3 f4 f5 hgfl zf0 zf1 zf2 zf3 zf4 zf5 x0 x1 x2 x3 x4 x5 qk0 qk1 q5;have HB4:=Za hb4;have HF4:=Za (HF3.out.below hb4 HF3.out.lt);have HX4:=Za (HX3.out.below hb4 HX3.out.lt);have HR4:=Za (HR3.out.below hb4 HR3.out.lt);have HK4:=Za (HK3.out.below hb4);have HG4:=Za (HBG.out.trans (hb4.mono (by have:=HBG.out.size;have:=HGR.out;omega)));have qk0:=(hb4.cell (p:=ak) HPB.out.1).trans Q0.out;have qk1:=(hb4.cell (p:=⟨ak.block,ak.off+1,none⟩) HPB.out.1).trans Q1.out;have q5:=(hb4.cell (p:=⟨pa.block,pa.off+5,none⟩) HPB.out.2).trans Q5.out;clear hb4;obtain ⟨f0,f1,f2,f3,f4,f5,hgfl⟩:=Zk HF4.out;obtain ⟨x0,x1,x2,x3,x4,x5,_⟩:=Zk HX4.out;have zf0:=HF4.out.frozen 0;have zf3:=HF4.out.frozen 3;have zf4:=HF4.out.frozen 4)
       by_cases ha1:x.a=1
       · have hab1:(x.a == 1)=true:=by simp [ha1]
         have HE:=Za (show V=some ⟨15,i,e9,some ((⟨2,0,0,0,0,0⟩:Ac).kid 2::[c,a].flatten),1,1⟩ by rw [HE0.out];simp [ZbK,ha0,HT0.out,hn0,ha1]);have hrw:=Zd9 W4 ⟨2,0,0,0,0,0⟩ _ _ HK4.out (by simp) HL2.out;simp only [Ac.val,List.length_cons,List.length_nil,Nat.zero_add,Nat.reduceAdd] at hrw;obtain ⟨NF,hNF⟩:∃n,((⟨2,0,0,0,0,0⟩:Ac).kid 2::[c,a].flatten).length=n:=⟨_,rfl⟩;have hnf:((NF:Int) == 0)=false:=by simp;rw [←hNF];simp
         have HNF:=Za hNF;have HRW:=Za hrw;clear hrw hNF;go_upto_region 24 with (go_at_call 120;with_reducible refine HRW.out.mono ?_;rintro en W7 ⟨u8,rfl,hr8,hb5⟩;have HRN:=Za hr8;obtain ⟨oa8,c8,e7⟩:=hr8.slice;rw [HNF.out] at e7;subst e7;clear hr8;clear f0 f1 f2 f3 f4 f5 hgfl zf0 zf3 zf4;have HB5:=Za hb5;have HF7:=Za (HF4.out.below hb5 HF4.out.lt);have HR7:=Za (HR4.out.below hb5 HR4.out.lt);have HG7:=Za (HG4.out.trans (hb5.mono (by have:=HG4.out.size;have:=HGR.out;omega)));clear hb5;obtain ⟨f0,f1,f2,f3,f4,f5,hgfl⟩:=Zk HF7.out;have zf0:=HF7.out.frozen 0;have zf3:=HF7.out.frozen 3;have zf4:=HF7.out.frozen 4);have HO6:=Za (show Only (fun k=>k=gf∨k=gr) W7 ((W7.setCell ⟨gf,0,none⟩ (.int .i64 15)).setCell ⟨gf,3,none⟩ (.slice oa8 NF c8)) from ZS (p:=⟨gf,3,none⟩) (ZS (p:=⟨gf,0,none⟩) (Only.refl _ W7) (.inl rfl)) (.inl rfl));have HF6:=Za (((HF7.out.set_ 0 (.int .i64 15)).set_ 3 (.slice oa8 NF c8)));have HR6:=Za (((HR7.out.far (p:=⟨gf,0,none⟩) n5 (.int .i64 15)).far (p:=⟨gf,3,none⟩) n5 (.slice oa8 NF c8)));have HB6:=Za ((Zf (p:=⟨gf,3,none⟩) (u:=.slice oa8 NF c8) (Zf (p:=⟨gf,0,none⟩) (u:=.int .i64 15) HG7.out (by show gr≤gf;omega)) (by show gr≤gf;omega)));generalize ((W7.setCell ⟨gf,0,none⟩ (.int .i64 15)).setCell ⟨gf,3,none⟩ (.slice oa8 NF c8))=W6 at HF6 HR6 HB6 HO6 ⊢;clear x0 x1 x2 x3 x4 x5 f0 f1 f2 f3 f4 f5 hgfl zf0 zf3 zf4;obtain ⟨f0,f1,f2,f3,f4,f5,hgfl⟩:=Zk HF6.out;go_upto_region 26 with fail;have HF5:=Za (HF6.out);have HR5:=Za (HR6.out);have HB5:=Za (HB6.out);generalize W6=W5 at HF5 HR5 HB5 HO6 ⊢;have HFIN:=Za (ZcK HRN.out HF7.out HR7.out (ZS (p:=⟨gr,5,none⟩) (ZS (p:=⟨gr,4,none⟩) (ZS (p:=⟨gr,3,none⟩) (ZS (p:=⟨gr,2,none⟩) (ZS (p:=⟨gr,1,none⟩) (ZS (p:=⟨gr,0,none⟩) HO6.out (.inr rfl)) (.inr rfl)) (.inr rfl)) (.inr rfl)) (.inr rfl)) (.inr rfl):Only (fun k=>k=gf∨k=gr) W7 ((((((W5.setCell ⟨gr,0,none⟩ (.int .i64 15)).setCell ⟨gr,1,none⟩ (.int .i64 (i:Int))).setCell ⟨gr,2,none⟩ (.int .i64 (e9:Int))).setCell ⟨gr,3,none⟩ (.slice oa8 NF c8)).setCell ⟨gr,4,none⟩ (.int .i64 1)).setCell ⟨gr,5,none⟩ (.int .i64 1))))
         try clear x0 x1 x2 x3 x4 x5
         try clear r0 r1 r2 r3 r4 r5 hgrl
         try clear f0 f1 f2 f3 f4 f5 hgfl
         obtain ⟨f0,f1,f2,f3,f4,f5,hgfl⟩:=Zk HF5.out;obtain ⟨r0,r1,r2,r3,r4,r5,hgrl⟩:=Zk HR5.out;have zr0:=HR5.out.frozen 0;have zr1:=HR5.out.frozen 1;have zr2:=HR5.out.frozen 2;have zr3:=HR5.out.frozen 3;have zr4:=HR5.out.frozen 4;have zr5:=HR5.out.frozen 5;go_wp2_with fail;refine bodyPost_ret (v:=.tuple #[.agg #[.int .i64 15,.int .i64 (i:Int),.int .i64 (e9:Int),.slice oa8 NF c8,.int .i64 1,.int .i64 1],.bool true]) ?_ rfl ?_
         · simp only [results,HRES.out];go_simp
         have hb9:Below gr wa ((((((W5.setCell ⟨gr,0,none⟩ (.int .i64 15)).setCell ⟨gr,1,none⟩ (.int .i64 (i:Int))).setCell ⟨gr,2,none⟩ (.int .i64 (e9:Int))).setCell ⟨gr,3,none⟩ (.slice oa8 NF c8)).setCell ⟨gr,4,none⟩ (.int .i64 1)).setCell ⟨gr,5,none⟩ (.int .i64 1)):=Zf (Zf (Zf (Zf (Zf (Zf HB5.out (by exact lr_)) (by exact lr_)) (by exact lr_)) (by exact lr_)) (by exact lr_)) (by exact lr_);exact ⟨by rw [HE.out];exact ⟨_,rfl,_,rfl,HFIN.out⟩,by rw [HGR.out];exact hb9⟩
       · have hab1:(x.a == 1)=false:=by simp [ha1]
         have HE:=Za (show V=none by rw [HE0.out];simp [ZbK,ha0,HT0.out,hn0,ha1]);go_upto_region 26 with fail;have HF5:=Za ((HF4.out.set_ 4 (.int .i64 0)));have HR5:=Za ((HR4.out.far (p:=⟨gf,4,none⟩) n5 (.int .i64 0)));have HB5:=Za ((Zf (p:=⟨gf,4,none⟩) (u:=.int .i64 0) HG4.out (by show gr≤gf;omega)));generalize (W4.setCell ⟨gf,4,none⟩ (.int .i64 0))=W5 at HF5 HR5 HB5 ⊢
         try clear x0 x1 x2 x3 x4 x5
         try clear r0 r1 r2 r3 r4 r5 hgrl
         try clear f0 f1 f2 f3 f4 f5 hgfl
         obtain ⟨f0,f1,f2,f3,f4,f5,hgfl⟩:=Zk HF5.out;obtain ⟨r0,r1,r2,r3,r4,r5,hgrl⟩:=Zk HR5.out;have zr0:=HR5.out.frozen 0;have zr1:=HR5.out.frozen 1;have zr2:=HR5.out.frozen 2;have zr3:=HR5.out.frozen 3;have zr4:=HR5.out.frozen 4;have zr5:=HR5.out.frozen 5;go_wp2_with fail;refine bodyPost_ret (v:=.tuple #[.agg #[.int .i64 0,.int .i64 (i:Int),.int .i64 (e9:Int),.slice none 0 0,.int .i64 0,.int .i64 1],.bool false]) ?_ rfl ?_
         · simp only [results,HRES.out];go_simp
         have hb9:Below gr wa ((((((W5.setCell ⟨gr,0,none⟩ (.int .i64 0)).setCell ⟨gr,1,none⟩ (.int .i64 (i:Int))).setCell ⟨gr,2,none⟩ (.int .i64 (e9:Int))).setCell ⟨gr,3,none⟩ (.slice none 0 0)).setCell ⟨gr,4,none⟩ (.int .i64 0)).setCell ⟨gr,5,none⟩ (.int .i64 1)):=Zf (Zf (Zf (Zf (Zf (Zf HB5.out (by exact lr_)) (by exact lr_)) (by exact lr_)) (by exact lr_)) (by exact lr_)) (by exact lr_);exact ⟨by rw [HE.out];exact ⟨_,_,_,_,_,_,_,_,rfl⟩,by rw [HGR.out];exact hb9⟩
 by_cases k4:x.k=4
 · obtain ⟨c,c0,hks,hhs,hc0⟩:=HD.out.set_ k4;have HE0:=Za (show V=if some c0=some (⟨21,x.a,0,0,0,0⟩:Ac) then some ⟨16,i,e9,none,0,1⟩ else none by rw [←HV.out,hhs];simp [Zaj,k4]);have hkm:=HK3.out;rw [hks] at hkm;obtain ⟨ak,ck,e7,hakb,hck,hxk⟩:=hkm.at_ (by simp);subst e7;have p0:=(gs_ hc0).1;obtain ⟨a0,ca0,qk0,rk0⟩:=hxk 0 c rfl p0;rw [show ak.add 0=ak by simp [Addr.add]] at qk0;obtain ⟨a9,e9x,_,q0,q1,q2,q3,q4,q5⟩:=Zq rk0.s hc0;injection e9x with e9x;subst e9x;rw [show a0.add (0*6)=a0 by simp [Addr.add]] at q0 q1 q2 q3 q4 q5;obtain ⟨LC,hLC⟩:∃n,c.length=n:=⟨_,rfl⟩;rw [hLC] at qk0 p0;have hp0:(0:Int)<(LC:Int):=by omega
   obtain ⟨z0,z1,z2,z3,z4,z5⟩:=c0;simp only at q0 q1 q2 q3 q4 q5;have he:=fun (W:World)=>eqA W z0 z1 z2 z3 z4 z5 21 x.a 0 0 0 0
   have hg:=g49;have hk2:(x.k == 2)=false:=by simp [k4]
   have hk3:(x.k == 3)=false:=by simp [k4]
   have hk4:(x.k == 4)=true:=by simp [k4]
   clear k2 k3 k4 hks hhs hkm hxk rk0 hLC hc0;obtain ⟨x0,x1,x2,x3,x4,x5,_⟩:=Zk HX3.out;obtain ⟨f0,f1,f2,f3,f4,f5,hgfl⟩:=Zk HF3.out;obtain ⟨r0,r1,r2,r3,r4,r5,hgrl⟩:=Zk HR3.out;have zf0:=HF3.out.frozen 0;have zf1:=HF3.out.frozen 1;have zf2:=HF3.out.frozen 2;have zf3:=HF3.out.frozen 3;have zf4:=HF3.out.frozen 4;have zf5:=HF3.out.frozen 5;have zr0:=HR3.out.frozen 0;have zr1:=HR3.out.frozen 1;have zr2:=HR3.out.frozen 2;have zr3:=HR3.out.frozen 3;have zr4:=HR3.out.frozen 4;have zr5:=HR3.out.frozen 5
   by_cases hq:(⟨z0,z1,z2,z3,z4,z5⟩:Ac)=⟨21,x.a,0,0,0,0⟩
   · have hd:decide ((⟨z0,z1,z2,z3,z4,z5⟩:Ac)=⟨21,x.a,0,0,0,0⟩)=true:=by simp [hq]
     rw [hd] at he;have HE:=Za (show V=some ⟨16,i,e9,none,0,1⟩ by rw [HE0.out,if_pos (by rw [hq])]);clear hq hd;go_upto_region 15 with fail;go_quiet (fail);go_upto_region 26 with fail;have HF5:=Za ((((show Hid (Blk (W3.drewN nq) gf 90 _) from Za (HF3.out.drewN nq)).out.set_ 0 (.int .i64 16)).set_ 4 (.int .i64 0)));have HR5:=Za ((((show Hid (Blk (W3.drewN nq) gr 90 _) from Za (HR3.out.drewN nq)).out.far (p:=⟨gf,0,none⟩) n5 (.int .i64 16)).far (p:=⟨gf,4,none⟩) n5 (.int .i64 0)));have HB5:=Za ((Zf (p:=⟨gf,4,none⟩) (u:=.int .i64 0) (Zf (p:=⟨gf,0,none⟩) (u:=.int .i64 16) (show Hid (Below gr wa (W3.drewN nq)) from Za (Zc (show Below gr wa W3 by rw [←HGR.out];rw [HGR.out];exact HBG.out) nq)).out (by show gr≤gf;omega)) (by show gr≤gf;omega)));generalize (((W3.drewN nq).setCell ⟨gf,0,none⟩ (.int .i64 16)).setCell ⟨gf,4,none⟩ (.int .i64 0))=W5 at HF5 HR5 HB5 ⊢
     try clear x0 x1 x2 x3 x4 x5
     try clear r0 r1 r2 r3 r4 r5 hgrl
     try clear f0 f1 f2 f3 f4 f5 hgfl
     obtain ⟨f0,f1,f2,f3,f4,f5,hgfl⟩:=Zk HF5.out;obtain ⟨r0,r1,r2,r3,r4,r5,hgrl⟩:=Zk HR5.out;have zr0:=HR5.out.frozen 0;have zr1:=HR5.out.frozen 1;have zr2:=HR5.out.frozen 2;have zr3:=HR5.out.frozen 3;have zr4:=HR5.out.frozen 4;have zr5:=HR5.out.frozen 5;go_wp2_with fail;refine bodyPost_ret (v:=.tuple #[.agg #[.int .i64 16,.int .i64 (i:Int),.int .i64 (e9:Int),.slice none 0 0,.int .i64 0,.int .i64 1],.bool true]) ?_ rfl ?_
     · simp only [results,HRES.out];go_simp
     have hb9:Below gr wa ((((((W5.setCell ⟨gr,0,none⟩ (.int .i64 16)).setCell ⟨gr,1,none⟩ (.int .i64 (i:Int))).setCell ⟨gr,2,none⟩ (.int .i64 (e9:Int))).setCell ⟨gr,3,none⟩ (.slice none 0 0)).setCell ⟨gr,4,none⟩ (.int .i64 0)).setCell ⟨gr,5,none⟩ (.int .i64 1)):=Zf (Zf (Zf (Zf (Zf (Zf HB5.out (by exact lr_)) (by exact lr_)) (by exact lr_)) (by exact lr_)) (by exact lr_)) (by exact lr_);exact ⟨by rw [HE.out];exact ⟨_,rfl,_,rfl,rfl⟩,by rw [HGR.out];exact hb9⟩
   · have hd:decide ((⟨z0,z1,z2,z3,z4,z5⟩:Ac)=⟨21,x.a,0,0,0,0⟩)=false:=by simpa using hq
     rw [hd] at he;have HE:=Za (show V=none by rw [HE0.out,if_neg (by simpa using hq)]);clear hq hd;go_upto_region 15 with fail;go_quiet (fail);go_upto_region 26 with fail;have HF5:=Za ((((show Hid (Blk (W3.drewN nq) gf 90 _) from Za (HF3.out.drewN nq)).out.set_ 0 (.int .i64 16)).set_ 4 (.int .i64 0)));have HR5:=Za ((((show Hid (Blk (W3.drewN nq) gr 90 _) from Za (HR3.out.drewN nq)).out.far (p:=⟨gf,0,none⟩) n5 (.int .i64 16)).far (p:=⟨gf,4,none⟩) n5 (.int .i64 0)));have HB5:=Za ((Zf (p:=⟨gf,4,none⟩) (u:=.int .i64 0) (Zf (p:=⟨gf,0,none⟩) (u:=.int .i64 16) (show Hid (Below gr wa (W3.drewN nq)) from Za (Zc (show Below gr wa W3 by rw [←HGR.out];rw [HGR.out];exact HBG.out) nq)).out (by show gr≤gf;omega)) (by show gr≤gf;omega)));generalize (((W3.drewN nq).setCell ⟨gf,0,none⟩ (.int .i64 16)).setCell ⟨gf,4,none⟩ (.int .i64 0))=W5 at HF5 HR5 HB5 ⊢
     try clear x0 x1 x2 x3 x4 x5
     try clear r0 r1 r2 r3 r4 r5 hgrl
     try clear f0 f1 f2 f3 f4 f5 hgfl
     obtain ⟨f0,f1,f2,f3,f4,f5,hgfl⟩:=Zk HF5.out;obtain ⟨r0,r1,r2,r3,r4,r5,hgrl⟩:=Zk HR5.out;have zr0:=HR5.out.frozen 0;have zr1:=HR5.out.frozen 1;have zr2:=HR5.out.frozen 2;have zr3:=HR5.out.frozen 3;have zr4:=HR5.out.frozen 4;have zr5:=HR5.out.frozen 5;go_wp2_with fail;refine bodyPost_ret (v:=.tuple #[.agg #[.int .i64 16,.int .i64 (i:Int),.int .i64 (e9:Int),.slice none 0 0,.int .i64 0,.int .i64 1],.bool false]) ?_ rfl ?_
     · simp only [results,HRES.out];go_simp
     have hb9:Below gr wa ((((((W5.setCell ⟨gr,0,none⟩ (.int .i64 16)).setCell ⟨gr,1,none⟩ (.int .i64 (i:Int))).setCell ⟨gr,2,none⟩ (.int .i64 (e9:Int))).setCell ⟨gr,3,none⟩ (.slice none 0 0)).setCell ⟨gr,4,none⟩ (.int .i64 0)).setCell ⟨gr,5,none⟩ (.int .i64 1)):=Zf (Zf (Zf (Zf (Zf (Zf HB5.out (by exact lr_)) (by exact lr_)) (by exact lr_)) (by exact lr_)) (by exact lr_)) (by exact lr_);exact ⟨by rw [HE.out];exact ⟨_,_,_,_,_,_,_,_,rfl⟩,by rw [HGR.out];exact hb9⟩
 by_cases k1:x.k=1
 · cases inb with
   | false =>
    have HE:=Za (show V=none by rw [←HV.out];simp [Zaj,k1]);have hk1:(x.k == 1)=true:=by simp [k1]
    have hk2:(x.k == 2)=false:=by simp [k1]
    have hk3:(x.k == 3)=false:=by simp [k1]
    have hk4:(x.k == 4)=false:=by simp [k1]
    clear k1 k2 k3 k4;obtain ⟨x0,x1,x2,x3,x4,x5,_⟩:=Zk HX3.out;obtain ⟨f0,f1,f2,f3,f4,f5,hgfl⟩:=Zk HF3.out;obtain ⟨r0,r1,r2,r3,r4,r5,hgrl⟩:=Zk HR3.out;have zf0:=HF3.out.frozen 0;have zf1:=HF3.out.frozen 1;have zf2:=HF3.out.frozen 2;have zf3:=HF3.out.frozen 3;have zf4:=HF3.out.frozen 4;have zf5:=HF3.out.frozen 5;have zr0:=HR3.out.frozen 0;have zr1:=HR3.out.frozen 1;have zr2:=HR3.out.frozen 2;have zr3:=HR3.out.frozen 3;have zr4:=HR3.out.frozen 4;have zr5:=HR3.out.frozen 5;go_upto_region 26 with fail;have HF5:=Za (HF3.out.set_ 4 (.int .i64 0));have HR5:=Za (HR3.out.far (p:=⟨gf,4,none⟩) n5 (.int .i64 0));have HB5:=Za (Zf (p:=⟨gf,4,none⟩) (u:=.int .i64 0) HBG.out (by show gr≤gf;omega));generalize W3.setCell ⟨gf,4,none⟩ (.int .i64 0)=W5 at HF5 HR5 HB5 ⊢
    try clear x0 x1 x2 x3 x4 x5
    try clear r0 r1 r2 r3 r4 r5 hgrl
    try clear f0 f1 f2 f3 f4 f5 hgfl
    obtain ⟨f0,f1,f2,f3,f4,f5,hgfl⟩:=Zk HF5.out;obtain ⟨r0,r1,r2,r3,r4,r5,hgrl⟩:=Zk HR5.out;have zr0:=HR5.out.frozen 0;have zr1:=HR5.out.frozen 1;have zr2:=HR5.out.frozen 2;have zr3:=HR5.out.frozen 3;have zr4:=HR5.out.frozen 4;have zr5:=HR5.out.frozen 5;go_wp2_with fail;refine bodyPost_ret (v:=.tuple #[.agg #[.int .i64 0,.int .i64 (i:Int),.int .i64 (e9:Int),.slice none 0 0,.int .i64 0,.int .i64 1],.bool false]) ?_ rfl ?_
    · simp only [results,HRES.out];go_simp
    have hb9:Below gr wa ((((((W5.setCell ⟨gr,0,none⟩ (.int .i64 0)).setCell ⟨gr,1,none⟩ (.int .i64 (i:Int))).setCell ⟨gr,2,none⟩ (.int .i64 (e9:Int))).setCell ⟨gr,3,none⟩ (.slice none 0 0)).setCell ⟨gr,4,none⟩ (.int .i64 0)).setCell ⟨gr,5,none⟩ (.int .i64 1)):=Zf (Zf (Zf (Zf (Zf (Zf HB5.out (by exact lr_)) (by exact lr_)) (by exact lr_)) (by exact lr_)) (by exact lr_)) (by exact lr_);exact ⟨by rw [HE.out];exact ⟨_,_,_,_,_,_,_,_,rfl⟩,by rw [HGR.out];exact hb9⟩
   | true =>
    have HE:=Za (show V=some ⟨17,i,e9,some (sp.map (sub l)).flatten,((sp.map (sub l)).length:Int),1⟩ by rw [←HV.out];simp [Zaj,k1]);have hjo:=Zni W3 vk _ HK3.out HKN.out.1 HKN.out.2;have HJO:=Za hjo;have hkm:=HK3.out;obtain ⟨ok,ck,rk,evk,_⟩:=hkm;subst evk;obtain ⟨NK,hNK⟩:∃n,(sp.map (sub l)).length=n:=⟨_,rfl⟩;rw [hNK] at HJO HE;simp only [hNK];obtain ⟨NF,hNF⟩:∃n,(sp.map (sub l)).flatten.length=n:=⟨_,rfl⟩;have HNF:=Za hNF;clear hjo hNK hNF;have hk1:(x.k == 1)=true:=by simp [k1]
    have hk2:(x.k == 2)=false:=by simp [k1]
    have hk3:(x.k == 3)=false:=by simp [k1]
    have hk4:(x.k == 4)=false:=by simp [k1]
    clear k1 k2 k3 k4;obtain ⟨x0,x1,x2,x3,x4,x5,_⟩:=Zk HX3.out;obtain ⟨f0,f1,f2,f3,f4,f5,hgfl⟩:=Zk HF3.out;obtain ⟨r0,r1,r2,r3,r4,r5,hgrl⟩:=Zk HR3.out;have zf0:=HF3.out.frozen 0;have zf1:=HF3.out.frozen 1;have zf2:=HF3.out.frozen 2;have zf3:=HF3.out.frozen 3;have zf4:=HF3.out.frozen 4;have zf5:=HF3.out.frozen 5;have zr0:=HR3.out.frozen 0;have zr1:=HR3.out.frozen 1;have zr2:=HR3.out.frozen 2;have zr3:=HR3.out.frozen 3;have zr4:=HR3.out.frozen 4;have zr5:=HR3.out.frozen 5;go_upto_region 20 with (go_at_call 100;with_reducible refine HJO.out.mono ?_;rintro en W4 ⟨u8,rfl,hr8,hb4⟩;have HRN:=Za hr8;obtain ⟨oa8,c8,e7⟩:=hr8.slice;rw [HNF.out] at e7;subst e7;clear hr8;clear f0 f1 f2 f3 f4 f5 hgfl zf0 zf1 zf2 zf3 zf4 zf5;have HB4:=Za hb4;have HF4:=Za (HF3.out.below hb4 HF3.out.lt);have HR4:=Za (HR3.out.below hb4 HR3.out.lt);have HG4:=Za (HBG.out.trans (hb4.mono (by have:=HBG.out.size;have:=HGR.out;omega)));clear hb4;obtain ⟨f0,f1,f2,f3,f4,f5,hgfl⟩:=Zk HF4.out;have zf0:=HF4.out.frozen 0;have zf3:=HF4.out.frozen 3;have zf4:=HF4.out.frozen 4);have HO6:=Za (show Only (fun k=>k=gf∨k=gr) W4 (((W4.setCell ⟨gf,0,none⟩ (.int .i64 17)).setCell ⟨gf,3,none⟩ (.slice oa8 NF c8)).setCell ⟨gf,4,none⟩ (.int .i64 (NK:Int))) from ZS (p:=⟨gf,4,none⟩) (ZS (p:=⟨gf,3,none⟩) (ZS (p:=⟨gf,0,none⟩) (Only.refl _ W4) (.inl rfl)) (.inl rfl)) (.inl rfl));have HF5:=Za ((((HF4.out.set_ 0 (.int .i64 17)).set_ 3 (.slice oa8 NF c8)).set_ 4 (.int .i64 (NK:Int))));have HR5:=Za ((((HR4.out.far (p:=⟨gf,0,none⟩) n5 (.int .i64 17)).far (p:=⟨gf,3,none⟩) n5 (.slice oa8 NF c8)).far (p:=⟨gf,4,none⟩) n5 (.int .i64 (NK:Int))));have HB5:=Za ((Zf (p:=⟨gf,4,none⟩) (u:=.int .i64 (NK:Int)) (Zf (p:=⟨gf,3,none⟩) (u:=.slice oa8 NF c8) (Zf (p:=⟨gf,0,none⟩) (u:=.int .i64 17) HG4.out (by show gr≤gf;omega)) (by show gr≤gf;omega)) (by show gr≤gf;omega)));generalize (((W4.setCell ⟨gf,0,none⟩ (.int .i64 17)).setCell ⟨gf,3,none⟩ (.slice oa8 NF c8)).setCell ⟨gf,4,none⟩ (.int .i64 (NK:Int)))=W5 at HF5 HR5 HB5 HO6 ⊢;have HFIN:=Za (ZcK HRN.out HF4.out HR4.out (ZS (p:=⟨gr,5,none⟩) (ZS (p:=⟨gr,4,none⟩) (ZS (p:=⟨gr,3,none⟩) (ZS (p:=⟨gr,2,none⟩) (ZS (p:=⟨gr,1,none⟩) (ZS (p:=⟨gr,0,none⟩) HO6.out (.inr rfl)) (.inr rfl)) (.inr rfl)) (.inr rfl)) (.inr rfl)) (.inr rfl):Only (fun k=>k=gf∨k=gr) W4 ((((((W5.setCell ⟨gr,0,none⟩ (.int .i64 17)).setCell ⟨gr,1,none⟩ (.int .i64 (i:Int))).setCell ⟨gr,2,none⟩ (.int .i64 (e9:Int))).setCell ⟨gr,3,none⟩ (.slice oa8 NF c8)).setCell ⟨gr,4,none⟩ (.int .i64 (NK:Int))).setCell ⟨gr,5,none⟩ (.int .i64 1))))
    try clear x0 x1 x2 x3 x4 x5
    try clear r0 r1 r2 r3 r4 r5 hgrl
    try clear f0 f1 f2 f3 f4 f5 hgfl
    obtain ⟨f0,f1,f2,f3,f4,f5,hgfl⟩:=Zk HF5.out;obtain ⟨r0,r1,r2,r3,r4,r5,hgrl⟩:=Zk HR5.out;have zr0:=HR5.out.frozen 0;have zr1:=HR5.out.frozen 1;have zr2:=HR5.out.frozen 2;have zr3:=HR5.out.frozen 3;have zr4:=HR5.out.frozen 4;have zr5:=HR5.out.frozen 5;go_wp2_with fail;refine bodyPost_ret (v:=.tuple #[.agg #[.int .i64 17,.int .i64 (i:Int),.int .i64 (e9:Int),.slice oa8 NF c8,.int .i64 (NK:Int),.int .i64 1],.bool true]) ?_ rfl ?_
    · simp only [results,HRES.out];go_simp
    have hb9:Below gr wa ((((((W5.setCell ⟨gr,0,none⟩ (.int .i64 17)).setCell ⟨gr,1,none⟩ (.int .i64 (i:Int))).setCell ⟨gr,2,none⟩ (.int .i64 (e9:Int))).setCell ⟨gr,3,none⟩ (.slice oa8 NF c8)).setCell ⟨gr,4,none⟩ (.int .i64 (NK:Int))).setCell ⟨gr,5,none⟩ (.int .i64 1)):=Zf (Zf (Zf (Zf (Zf (Zf HB5.out (by exact lr_)) (by exact lr_)) (by exact lr_)) (by exact lr_)) (by exact lr_)) (by exact lr_);exact ⟨by rw [HE.out];exact ⟨_,rfl,_,rfl,HFIN.out⟩,by rw [HGR.out];exact hb9⟩
 by_cases k9:x.k=9
 · obtain ⟨y,hy,hz⟩:=HD.out.take k9;obtain ⟨z,hzz⟩:∃z,l[i+2]?.getD x=z:=⟨_,rfl⟩;have hha:=ZmL W3 ad cl l i x y z (HRO.out.below HB3.out) (by have:=HL9.out;omega) HX.out hy (fun q1 q2=>by obtain ⟨z9,e9z⟩:=hz q1 q2;rw [←hzz,e9z];rfl);have hN3:(handF x y z).2≤3:=by unfold handF;(repeat' split) <;> simp
   have hV9:V=some ⟨18,i,i+(handF x y z).2,some [(handF x y z).1],1,((handF x y z).2:Int)⟩:=by rw [←HV.out];simp [Zaj,k9,hy,hzz]
   obtain ⟨⟨fr,fn⟩,hfr⟩:∃p,handF x y z=p:=⟨_,rfl⟩;rw [hfr] at hha hN3 hV9;simp only at hha hN3 hV9;rw [HLL.out] at hha;have HE:=Za hV9;have HHA:=Za hha;have hq1:=IntWalk.i64_in ((i:Int)+(fn:Int)) (by have:=HL9.out;have:=HLL.out;omega);have hk1:(x.k == 1)=false:=by simp [k9]
   have hk2:(x.k == 2)=false:=by simp [k9]
   have hk3:(x.k == 3)=false:=by simp [k9]
   have hk4:(x.k == 4)=false:=by simp [k9]
   have hk9:(x.k == 9)=true:=by simp [k9]
   clear k1 k2 k3 k4 k9 hy hz hzz hha hV9 hfr;obtain ⟨x0,x1,x2,x3,x4,x5,_⟩:=Zk HX3.out;obtain ⟨f0,f1,f2,f3,f4,f5,hgfl⟩:=Zk HF3.out;obtain ⟨r0,r1,r2,r3,r4,r5,hgrl⟩:=Zk HR3.out;have zf0:=HF3.out.frozen 0;have zf1:=HF3.out.frozen 1;have zf2:=HF3.out.frozen 2;have zf3:=HF3.out.frozen 3;have zf4:=HF3.out.frozen 4;have zf5:=HF3.out.frozen 5;have zr0:=HR3.out.frozen 0;have zr1:=HR3.out.frozen 1;have zr2:=HR3.out.frozen 2;have zr3:=HR3.out.frozen 3;have zr4:=HR3.out.frozen 4;have zr5:=HR3.out.frozen 5;go_upto_region 23 with (go_at_call 123;with_reducible refine HHA.out.mono ?_;rintro en W4 ⟨a8,rfl,hr8,hb4⟩;have HRN:=Za hr8.rin;have HF4:=Za (HF3.out.below hb4 HF3.out.lt);have HR4:=Za (HR3.out.below hb4 HR3.out.lt);have HG4:=Za (HBG.out.trans (hb4.mono (by have:=HBG.out.size;have:=HGR.out;omega)));clear hr8 hb4);have HF5:=Za (HF4.out);have HR5:=Za (HR4.out);have HB5:=Za (HG4.out);generalize W4=W5 at HF5 HR5 HB5 HRN ⊢;have HFIN:=Za (ZcK HRN.out HF5.out HR5.out (ZS (p:=⟨gr,5,none⟩) (ZS (p:=⟨gr,4,none⟩) (ZS (p:=⟨gr,3,none⟩) (ZS (p:=⟨gr,2,none⟩) (ZS (p:=⟨gr,1,none⟩) (ZS (p:=⟨gr,0,none⟩) (Only.refl _ W5) (.inr rfl)) (.inr rfl)) (.inr rfl)) (.inr rfl)) (.inr rfl)) (.inr rfl):Only (fun k=>k=gf∨k=gr) W5 ((((((W5.setCell ⟨gr,0,none⟩ (.int .i64 18)).setCell ⟨gr,1,none⟩ (.int .i64 (i:Int))).setCell ⟨gr,2,none⟩ (.int .i64 ((i:Int)+(fn:Int)))).setCell ⟨gr,3,none⟩ (.slice (some a8) 1 1)).setCell ⟨gr,4,none⟩ (.int .i64 1)).setCell ⟨gr,5,none⟩ (.int .i64 (fn:Int)))))
   try clear x0 x1 x2 x3 x4 x5
   try clear r0 r1 r2 r3 r4 r5 hgrl
   try clear f0 f1 f2 f3 f4 f5 hgfl
   obtain ⟨f0,f1,f2,f3,f4,f5,hgfl⟩:=Zk HF5.out;obtain ⟨r0,r1,r2,r3,r4,r5,hgrl⟩:=Zk HR5.out;have zr0:=HR5.out.frozen 0;have zr1:=HR5.out.frozen 1;have zr2:=HR5.out.frozen 2;have zr3:=HR5.out.frozen 3;have zr4:=HR5.out.frozen 4;have zr5:=HR5.out.frozen 5;go_wp2_with fail;refine bodyPost_ret (v:=.tuple #[.agg #[.int .i64 18,.int .i64 (i:Int),.int .i64 ((i:Int)+(fn:Int)),.slice (some a8) 1 1,.int .i64 1,.int .i64 (fn:Int)],.bool true]) ?_ rfl ?_
   · simp only [results,HRES.out];go_simp
   have hb9:Below gr wa ((((((W5.setCell ⟨gr,0,none⟩ (.int .i64 18)).setCell ⟨gr,1,none⟩ (.int .i64 (i:Int))).setCell ⟨gr,2,none⟩ (.int .i64 ((i:Int)+(fn:Int)))).setCell ⟨gr,3,none⟩ (.slice (some a8) 1 1)).setCell ⟨gr,4,none⟩ (.int .i64 1)).setCell ⟨gr,5,none⟩ (.int .i64 (fn:Int))):=Zf (Zf (Zf (Zf (Zf (Zf HB5.out (by exact lr_)) (by exact lr_)) (by exact lr_)) (by exact lr_)) (by exact lr_)) (by exact lr_);exact ⟨by rw [HE.out];exact ⟨_,rfl,.slice (some a8) 1 1,by simp,HFIN.out⟩,by rw [HGR.out];exact hb9⟩
 have hrest:x.k≠1∧x.k≠2∧x.k≠3∧x.k≠4∧x.k≠9:=⟨k1,k2,k3,k4,k9⟩;clear k1 k2 k3 k4 k9;have HE:=Za (show V=none by rw [←HV.out];exact Znv hrest);have hk1:(x.k == 1)=false:=by simp [hrest]
 have hk2:(x.k == 2)=false:=by simp [hrest]
 have hk3:(x.k == 3)=false:=by simp [hrest]
 have hk4:(x.k == 4)=false:=by simp [hrest]
 have hk9:(x.k == 9)=false:=by simp [hrest]
 clear hrest;obtain ⟨x0,x1,x2,x3,x4,x5,_⟩:=Zk HX3.out;obtain ⟨f0,f1,f2,f3,f4,f5,hgfl⟩:=Zk HF3.out;obtain ⟨r0,r1,r2,r3,r4,r5,hgrl⟩:=Zk HR3.out;have zf0:=HF3.out.frozen 0;have zf1:=HF3.out.frozen 1;have zf2:=HF3.out.frozen 2;have zf3:=HF3.out.frozen 3;have zf4:=HF3.out.frozen 4;have zf5:=HF3.out.frozen 5;have zr0:=HR3.out.frozen 0;have zr1:=HR3.out.frozen 1;have zr2:=HR3.out.frozen 2;have zr3:=HR3.out.frozen 3;have zr4:=HR3.out.frozen 4;have zr5:=HR3.out.frozen 5;go_upto_region 26 with fail;have HF5:=Za (HF3.out.set_ 4 (.int .i64 0));have HR5:=Za (HR3.out.far (p:=⟨gf,4,none⟩) n5 (.int .i64 0));have HB5:=Za (Zf (p:=⟨gf,4,none⟩) (u:=.int .i64 0) HBG.out (by show gr≤gf;omega));generalize W3.setCell ⟨gf,4,none⟩ (.int .i64 0)=W5 at HF5 HR5 HB5 ⊢
 try clear x0 x1 x2 x3 x4 x5
 try clear r0 r1 r2 r3 r4 r5 hgrl
 try clear f0 f1 f2 f3 f4 f5 hgfl
 obtain ⟨f0,f1,f2,f3,f4,f5,hgfl⟩:=Zk HF5.out;obtain ⟨r0,r1,r2,r3,r4,r5,hgrl⟩:=Zk HR5.out;have zr0:=HR5.out.frozen 0;have zr1:=HR5.out.frozen 1;have zr2:=HR5.out.frozen 2;have zr3:=HR5.out.frozen 3;have zr4:=HR5.out.frozen 4;have zr5:=HR5.out.frozen 5;go_wp2_with fail;refine bodyPost_ret (v:=.tuple #[.agg #[.int .i64 0,.int .i64 (i:Int),.int .i64 (e9:Int),.slice none 0 0,.int .i64 0,.int .i64 1],.bool false]) ?_ rfl ?_
 · simp only [results,HRES.out];go_simp
 have hb9:Below gr wa ((((((W5.setCell ⟨gr,0,none⟩ (.int .i64 0)).setCell ⟨gr,1,none⟩ (.int .i64 (i:Int))).setCell ⟨gr,2,none⟩ (.int .i64 (e9:Int))).setCell ⟨gr,3,none⟩ (.slice none 0 0)).setCell ⟨gr,4,none⟩ (.int .i64 0)).setCell ⟨gr,5,none⟩ (.int .i64 1)):=Zf (Zf (Zf (Zf (Zf (Zf HB5.out (by exact lr_)) (by exact lr_)) (by exact lr_)) (by exact lr_)) (by exact lr_)) (by exact lr_);exact ⟨by rw [HE.out];exact ⟨_,_,_,_,_,_,_,_,rfl⟩,by rw [HGR.out];exact hb9⟩
end
end Go.Proofs.Ytdpokdcendgfeaa
