/- Several texts in one: The walk of fold.branch with an else. A region that loads a row, asks for its kids, and lays the row in a box, in any order. Conditions: those of each. -/
import Derived.Test.YtdpokdcendgfeaaW6
set_option linter.unusedSimpArgs false
set_option linter.unusedVariables false
set_option maxHeartbeats 80000000
set_option maxRecDepth 100000
namespace Go.Proofs.Ytdpokdcendgfeaa
open Go.RowKit
section
attribute [local go_sem] par Zah
def K26 (xv cv av bv putv:Value) (c a WL out:List Ac):Nat→Value→World→Prop
 | 0,v,_=>v=xv
 | 1,v,_=>v=cv
 | 2,v,_=>v=av
 | 3,v,_=>v=bv
 | 4,v,_=>v=putv
 | 5,v,w=>∃aw cw,v=.slice (some aw) WL.length cw∧Ro w aw cw WL
 | 6,v,w=>KsM w v [c,a,WL]
 | 7,v,w=>Rin w v (some out)
 | 8,v,_=>v=.int .i64 13
 | 9,v,w=>Rin w v (some out)
 | 10,v,_=>v=.bool true
 | _,_,_=>True
theorem ZaP (xv cv av bv putv:Value) (c a WL out:List Ac):StK (K26 xv cv av bv putv c a WL out):=fun i v w w' h hb=>by
 match i with
 | 0 | 1 | 2 | 3 | 4 | 8 | 10=>exact h
 | 5 =>
  obtain ⟨aw,cw,h1,h2⟩:=h;exact ⟨aw,cw,h1,h2.below hb⟩
 | 6=>exact KsM.below h hb
 | 7 | 9=>exact Rin.below (o:=some out) h hb
 | _+11=>trivial
theorem ZkG (w:World) (x:Ac) (v:Value) (c a b:List Ac) (c0 a0 b0:Ac) (h:KsM w v [c,a,b]) (hc0:c[0]? = some c0) (ha:BlkOk a a0) (hb:BlkOk b b0) (hc29:c0.k=29→2≤c.length) (hlen:c.length+a.length+b.length≤131072) :
 Calls Try.prog 121 #[x.val,v] w fun en w'=>ZbJ w' en (Z3 x c a (some b) c0 a0 b0)∧Below w.heap.size w w':=by
 have p0:=(gs_ hc0).1;have p1:=(gs_ ha.h).1;have p2:=(gs_ hb.h).1;obtain ⟨ad,ck,rfl,hab,hck,hx⟩:=h.at_ (by simp);obtain ⟨ac,cc,q0,rc⟩:=hx 0 c rfl p0;obtain ⟨aa,ca,q1,ra⟩:=hx 1 a rfl p1;obtain ⟨ab,cb,q2,rb⟩:=hx 2 b rfl p2;rw [show ad.add 0=ad by simp [Addr.add]] at q0;rw [show ad.add 1=⟨ad.block,ad.off+1,none⟩ by simp [Addr.add]] at q1;rw [show ad.add 2=⟨ad.block,ad.off+2,none⟩ by simp [Addr.add]] at q2;obtain ⟨t0,ht0⟩:∃b,Zai c0 1=b:=⟨_,rfl⟩;obtain ⟨t1,ht1⟩:∃b,Zai c0 0=b:=⟨_,rfl⟩
 have HV0:=Za (show Z3 x c a (some b) c0 a0 b0=if t0 then some (8,some a) else if t1 then some (8,some b) else if c0.k=29 then some (9,some (x.kid 3::[c.drop 1,b,a].flatten)) else if b0.n=0 then some (10,some (x.kid 2::[c,a].flatten)) else if ZaE a c then some (12,some (x.kid 3::[c,Zi (Zt a) (inK a 1),b].flatten)) else if ZaE b c then some (13,some (x.kid 3::[c,a,Zi (Zt b) (inK b 2)].flatten)) else none by
  unfold Z3;rw [ht0,ht1]
  rfl)
 have HT0:=Za (fun W hW=>Zbc rc hc0 1 ht0 W hW);have HT1:=Za (fun W hW=>Zbc rc hc0 0 ht1 W hW);obtain ⟨⟨pc0,_,_,_,_,_⟩,hbc,_⟩:=rc.row hc0;obtain ⟨⟨_,_,_,_,_,pa5⟩,hba,_⟩:=ra.row ha.h;obtain ⟨⟨_,_,_,_,_,pb5⟩,hbb,_⟩:=rb.row hb.h;have RC:=Za rc;have RA:=Za ra;have RB:=Za rb;have HA:=Za ha;have HBb:=Za hb;have H29:=Za hc29;have HLEN:=Za hlen;have HAB:=Za hab;simp only [Ac.val,List.length_cons,List.length_nil] at hck ⊢;have hck2:ck≠2:=by omega
 have HB1:=Za ((Below.refl w.heap.size w).alloc lr_ (.cells #[.int .i64 x.k,.int .i64 x.a,.int .i64 x.b,.int .i64 x.c,.int .i64 x.d,.int .i64 x.n] 49));have HBX:=Za (Blk.new w 49 #[.int .i64 x.k,.int .i64 x.a,.int .i64 x.b,.int .i64 x.c,.int .i64 x.d,.int .i64 x.n]);obtain ⟨LC,hLC⟩:∃n,c.length=n:=⟨_,rfl⟩;obtain ⟨LA,hLA⟩:∃n,a.length=n:=⟨_,rfl⟩;obtain ⟨LB,hLB⟩:∃n,b.length=n:=⟨_,rfl⟩;rw [hLC] at q0 HT0 HT1 p0;rw [hLA] at q1 p1;rw [hLB] at q2 p2;have q0':=(HB1.out.cell (p:=ad) hab).trans q0;have q1':=(HB1.out.cell (p:=⟨ad.block,ad.off+1,none⟩) hab).trans q1;have HLC:=Za hLC;have HLA:=Za hLA;have HLB:=Za hLB;have HQ2:=Za q2;clear q0 q1 q2 h hc0 ha hb hc29 hlen hx rc ra rb ht0 ht1 hLC hLA hLB hab;have hnE:=Zna;have hnN:=Zm9;go_enter Try.func121,Try.ntmps121;go_upto_region 1 with fail;generalize (w.alloc (.cells #[.int .i64 x.k,.int .i64 x.a,.int .i64 x.b,.int .i64 x.c,.int .i64 x.d,.int .i64 x.n] 49))=W1 at HB1 HBX q0' q1';go_quiet (fail);go_upto_region 2 with fail;have HB2:=Za (Zc HB1.out nq);have HX2:=Za (HBX.out.below (Zc (Below.refl _ W1) nq) HBX.out.lt);generalize W1.drewN nq=W2 at HB2 HX2;obtain ⟨y0,y1,y2,y3,y4,y5,hbx⟩:=Zk HX2.out;have q2':=(HB2.out.cell (p:=⟨ad.block,ad.off+2,none⟩) HAB.out).trans HQ2.out;have pc0':=(HB2.out.cell (p:=ac) hbc).trans pc0;have pb5':=(HB2.out.cell (p:=⟨ab.block,ab.off+5,none⟩) hbb).trans pb5;have hlc:(0:Int)<(LC:Int):=by omega
 have hla:(0:Int)<(LA:Int):=by omega
 have hlb:(0:Int)<(LB:Int):=by omega
 clear q0' q1' HB1 HBX pc0 pa5 pb5
 cases t0 with
 | true =>
  have HV:=Za (show Z3 x c a (some b) c0 a0 b0=some (8,some a) by rw [HV0.out];simp );clear HV0;go_wp2_with (go_at_call 122;with_reducible refine (HT0.out _ HB2.out).mono ?_;rintro en w9 ⟨rfl,rfl⟩);go_ret3;exact ⟨by rw [HV.out];exact ⟨_,rfl,(RA.out.below HB2.out).rinN HLA.out⟩,HB2.out⟩
 | false =>
  cases t1 with
  | true =>
   have HV:=Za (show Z3 x c a (some b) c0 a0 b0=some (8,some b) by rw [HV0.out];simp );clear HV0;go_wp2_with (go_at_call 122;with_reducible refine (HT0.out _ HB2.out).mono ?_;rintro en w9 ⟨rfl,rfl⟩);go_wp2_with (go_at_call 122;with_reducible refine (HT1.out _ HB2.out).mono ?_;rintro en w9 ⟨rfl,rfl⟩);go_ret3;exact ⟨by rw [HV.out];exact ⟨_,rfl,(RB.out.below HB2.out).rinN HLB.out⟩,HB2.out⟩
  | false =>
   by_cases h29:c0.k=29
   · have HV:=Za (show Z3 x c a (some b) c0 a0 b0=some (9,some (x.kid 3::[c.drop 1,b,a].flatten)) by rw [HV0.out];simp [h29]);clear HV0;have h2c:=H29.out h29;have hb29:(c0.k == 29)=true:=by simp [h29]
     rw [HLC.out] at h2c;have hcc:=RC.out.n;rw [HLC.out] at hcc;have hcc1:cc≠1:=by omega
     have hcI:(1:Int)≤(LC:Int):=by omega
     clear h29;go_wp2_with (go_at_call 122;with_reducible refine (HT0.out _ HB2.out).mono ?_;rintro en w9 ⟨rfl,rfl⟩);go_wp2_with (go_at_call 122;with_reducible refine (HT1.out _ HB2.out).mono ?_;rintro en w9 ⟨rfl,rfl⟩);go_upto_region 12 with fail;have R3C:=Za (Zfp (RC.out.below HB2.out) (by rw [HLC.out];exact h2c));have R3A:=Za (RA.out.below HB2.out);have R3B:=Za (RB.out.below HB2.out);skip
     have HKS:=Za (fun (w7:World) (hb:Below w9.heap.size w9 w7)=>show KsM (w7.alloc (.cells #[(.slice (some ⟨ac.block,ac.off+6,none⟩) (LC - 1) (cc - 1)),(.slice (some ab) LB cb),(.slice (some aa) LA ca)] 26)) (.slice (some ⟨w7.heap.size,0,none⟩) 3 3) [c.drop 1,b,a] from by
      have hb8:=hb.alloc hb.size (.cells #[(.slice (some ⟨ac.block,ac.off+6,none⟩) (LC - 1) (cc - 1)),(.slice (some ab) LB cb),(.slice (some aa) LA ca)] 26);refine Zb2 (rest:=[]) (ev3 (R3C.out.below hb8) (R3B.out.below hb8) (R3A.out.below hb8)) ?_ lr_ rfl;have h9:=Blk.new w7 26 #[(.slice (some ⟨ac.block,ac.off+6,none⟩) (LC - 1) (cc - 1)),(.slice (some ab) LB cb),(.slice (some aa) LA ca)]
      simpa [slv,HLC.out,HLA.out,HLB.out] using h9)
     have HRV:=Za (show Zh [c.drop 1,b,a]≤200000 by have:=HLEN.out;simp [Zh];omega);have HBW:=Za HB2.out;refine ZB (JG w9 (K12 (.agg #[.int .i64 x.k,.int .i64 x.a,.int .i64 x.b,.int .i64 x.c,.int .i64 x.d,.int .i64 x.n]) (.slice (some ac) LC cc) (.slice (some ⟨ac.block,ac.off+6,none⟩) (LC - 1) (cc - 1)) (.slice (some ab) LB cb) (.slice (some aa) LA ca) [c.drop 1,b,a] (x.kid 3::([c.drop 1,b,a]).flatten))) [[],[],[1],[],[],[1,2,3,4],[0,1,2,3,4,5],[0,1,2,3,4,5,6],[0,1,2,3,4,5,6,7],[0,1,2,3,4,5,6,7,8]] (by kernel_rfl) (by kernel_rfl) (fun vs=>JG.start vs (fun i v w hi=>by match i,hi with | _+10,_=>trivial)) (fun vs=>?_);refine Zb rfl (fun S w9 hS hA hD hJ R hR=>?_) (fun K hK=>?_)
     · have z0:=(hJ.b.cell (p:=⟨w.heap.size,0,none⟩) hbx).trans y0;have z1:=(hJ.b.cell (p:=⟨w.heap.size,1,none⟩) hbx).trans y1;have z2:=(hJ.b.cell (p:=⟨w.heap.size,2,none⟩) hbx).trans y2;have z3:=(hJ.b.cell (p:=⟨w.heap.size,3,none⟩) hbx).trans y3;have z4:=(hJ.b.cell (p:=⟨w.heap.size,4,none⟩) hbx).trans y4;have z5:=(hJ.b.cell (p:=⟨w.heap.size,5,none⟩) hbx).trans y5;go_simp;exact hR _ _ (hJ.step (Za2 _ _ _ _ _ _ _) br_ rfl)
     go_simp;refine hK _ ?_;clear hK K;refine Zb rfl (fun S w9 hS hA hD hJ R hR=>?_) (fun K hK=>?_)
     · go_simp;exact hR _ _ (hJ.step (Za2 _ _ _ _ _ _ _) br_ rfl)
     go_simp;refine hK _ ?_;clear hK K;refine Zb rfl (fun S w9 hS hA hD hJ R hR=>?_) (fun K hK=>?_)
     · have k1:vs 1=_:=hJ.k 1 (hA 1 (by decide));simp only [k1];go_simp;exact hR _ _ (hJ.step (Za2 _ _ _ _ _ _ _) br_ rfl)
     go_simp;refine hK _ ?_;clear hK K;refine Zb rfl (fun S w9 hS hA hD hJ R hR=>?_) (fun K hK=>?_)
     · go_simp;exact hR _ _ (hJ.step (Za2 _ _ _ _ _ _ _) br_ rfl)
     go_simp;refine hK _ ?_;clear hK K;refine Zb rfl (fun S w9 hS hA hD hJ R hR=>?_) (fun K hK=>?_)
     · go_simp;exact hR _ _ (hJ.step (Za2 _ _ _ _ _ _ _) br_ rfl)
     go_simp;refine hK _ ?_;clear hK K;refine Zb rfl (fun S w9 hS hA hD hJ R hR=>?_) (fun K hK=>?_)
     · have k2:vs 2=_:=hJ.k 2 (hA 2 (by decide));have k3:vs 3=_:=hJ.k 3 (hA 3 (by decide));have k4:vs 4=_:=hJ.k 4 (hA 4 (by decide));simp only [k2,k3,k4];go_simp;exact hR _ _ (hJ.step (Za2 _ _ _ _ _ _ _) ((Below.refl _ w9).alloc lr_ _) (HKS.out w9 hJ.b))
     go_simp;refine hK _ ?_;clear hK K;refine Zb rfl (fun S w9 hS hA hD hJ R hR=>?_) (fun K hK=>?_)
     · have k0:vs 0=_:=hJ.k 0 (hA 0 (by decide));have k5:KsM w9 (vs 5) _:=hJ.k 5 (hA 5 (by decide));refine pc_ Zel (kd_ (Zdw w9 x (vs 5) [c.drop 1,b,a] k5 (by simp) HRV.out) fun u _ e2 e3=>hR _ _ (hJ.step (Za2 _ _ _ _ _ _ _) e3 e2)) rfl ?_;simp [Act.eval,Act.put,k0]
     go_simp;refine hK _ ?_;clear hK K;refine Zb rfl (fun S w9 hS hA hD hJ R hR=>?_) (fun K hK=>?_)
     · go_simp;exact hR _ _ (hJ.step (Za2 _ _ _ _ _ _ _) br_ rfl)
     go_simp;refine hK _ ?_;clear hK K;refine Zb rfl (fun S w9 hS hA hD hJ R hR=>?_) (fun K hK=>?_)
     · have k6:Rin w9 (vs 6) (some (x.kid 3::([c.drop 1,b,a]).flatten)):=hJ.k 6 (hA 6 (by decide));go_simp;exact hR _ _ (hJ.step (Za2 _ _ _ _ _ _ _) br_ k6)
     go_simp;refine hK _ ?_;clear hK K;refine Zb rfl (fun S w9 hS hA hD hJ R hR=>?_) (fun K hK=>?_)
     · go_simp;exact hR _ _ (hJ.step (Za2 _ _ _ _ _ _ _) br_ rfl)
     go_simp;refine hK _ ?_;clear hK K;refine Z2 (fun w7 hJ=>?_);have k7:vs 7=_:=hJ.k 7 rfl;have k8:Rin w7 (vs 8) (some (x.kid 3::([c.drop 1,b,a]).flatten)):=hJ.k 8 rfl;have k9:vs 9=_:=hJ.k 9 rfl;have HJB:=Za hJ.b;have HK8:=Za k8;clear hJ k8;simp only [k7,k9];clear k7 k9;go_wp2_with fail;go_ret3;exact ⟨by rw [HV.out];exact ⟨_,rfl,HK8.out⟩,HBW.out.trans (HJB.out.mono HBW.out.size)⟩
   · have hb29:(c0.k == 29)=false:=by simp [h29]
     by_cases hz:b0.n=0
     · have HV:=Za (show Z3 x c a (some b) c0 a0 b0=some (10,some (x.kid 2::[c,a].flatten)) by rw [HV0.out];simp [h29,hz]);clear HV0;have hzb:(b0.n == 0)=true:=by simp [hz]
       clear h29 hz;have hba2:Below w.heap.size w (W2.alloc (.cells #[(.slice (some ac) LC cc),(.slice (some aa) LA ca)] 26)):=HB2.out.alloc HB2.out.size (.cells #[(.slice (some ac) LC cc),(.slice (some aa) LA ca)] 26);have HBA2:=Za hba2
       have hk9:KsM (W2.alloc (.cells #[(.slice (some ac) LC cc),(.slice (some aa) LA ca)] 26)) (.slice (some ⟨W2.heap.size,0,none⟩) 2 2) [c,a]:=by
        refine Zb2 (rest:=[]) (ev2 (RC.out.below hba2) (RA.out.below hba2)) ?_ lr_ rfl;have h9:=Blk.new W2 26 #[(.slice (some ac) LC cc),(.slice (some aa) LA ca)];simpa [slv,HLC.out,HLA.out] using h9
       have HRX:=Za (Zdw (W2.alloc (.cells #[(.slice (some ac) LC cc),(.slice (some aa) LA ca)] 26)) x (.slice (some ⟨W2.heap.size,0,none⟩) 2 2) [c,a] hk9 (by simp) (by have:=HLEN.out;simp [Zh];omega));clear hba2 hk9;go_wp2_with (go_at_call 122;with_reducible refine (HT0.out _ HB2.out).mono ?_;rintro en w9 ⟨rfl,rfl⟩);go_wp2_with (go_at_call 122;with_reducible refine (HT1.out _ HB2.out).mono ?_;rintro en w9 ⟨rfl,rfl⟩);go_wp2_with (go_at_call 120;with_reducible refine HRX.out.mono ?_;rintro en w8 ⟨u,rfl,hu,hb8⟩;have HU:=Za hu;have HB8:=Za (HBA2.out.trans (hb8.mono HBA2.out.size));clear hu hb8);go_ret3;exact ⟨by rw [HV.out];exact ⟨_,rfl,HU.out⟩,HB8.out⟩
     · have hzb:(b0.n == 0)=false:=by simp [hz]
       obtain ⟨ts,hts⟩:∃t,ZaE a c=t:=⟨_,rfl⟩;have HTS:=Za hts;have HSM:=Za (fun (W:World) (hW:Below w.heap.size w W)=>Zht RA.out RC.out HA.out (by have:=HLEN.out;omega) HLA.out HLC.out hts W hW);clear hts;obtain ⟨tb,htb⟩:∃t,ZaE b c=t:=⟨_,rfl⟩;have HTB:=Za htb;have HSB:=Za (fun (W:World) (hW:Below w.heap.size w W)=>Zht RB.out RC.out HBb.out (by have:=HLEN.out;omega) HLB.out HLC.out htb W hW);clear htb
       cases ts with
       | true =>
        have HV:=Za (show Z3 x c a (some b) c0 a0 b0=some (12,some (x.kid 3::[c,Zi (Zt a) (inK a 1),b].flatten)) by rw [HV0.out];simp [h29,hz,HTS.out]);clear HV0;clear h29 hz;go_wp2_with (go_at_call 122;with_reducible refine (HT0.out _ HB2.out).mono ?_;rintro en w9 ⟨rfl,rfl⟩);go_wp2_with (go_at_call 122;with_reducible refine (HT1.out _ HB2.out).mono ?_;rintro en w9 ⟨rfl,rfl⟩)
        go_upto_region 19 with (
         go_at_call 168;with_reducible refine (HSM.out _ HB2.out).mono ?_
         rintro en W5 ⟨v5,rfl,hk5,hb5⟩;have HB5:=Za hb5;obtain ⟨sp5,hi5,hkm⟩:=hk5 (by simp);obtain ⟨r,sp,q0,q1,sp2,e1,e2,e3,e4,e5,e6⟩:=HA.out.inn HTS.out;rw [e2] at hi5;injection hi5 with hi5;subst hi5;obtain ⟨adk,ckk,rfl,habk,hckk,hxk⟩:=hkm.at_ (by simp);obtain ⟨a1,c1,qk1,rk1⟩:=hxk 1 (sub a q1) rfl (e4 q1 (by simp)).2;rw [show adk.add 1=⟨adk.block,adk.off+1,none⟩ by simp [Addr.add]] at qk1;have RK1:=Za rk1;have HQ1:=Za (show inK a 1=some (sub a q1) by unfold inK;rw [e2];rfl);obtain ⟨NK,hNK⟩:∃n,(List.map (sub a) (q0::q1::sp2)).length=n:=⟨_,rfl⟩;have hNK2:(1:Int)<(NK:Int):=by rw [←hNK];simp <;> omega
         rw [hNK];obtain ⟨L1,hL1⟩:∃n,(sub a q1).length=n:=⟨_,rfl⟩;have HL1:=Za hL1;rw [hL1] at qk1
         clear hb5 hk5 hkm hxk rk1 e1 e2 e3 e4 e5 e6 hNK hL1)
        have HBW5:=Za (HB2.out.trans (HB5.out.mono HB2.out.size));have HX5:=Za (HX2.out.below HB5.out HX2.out.lt);clear y0 y1 y2 y3 y4 y5 hbx;obtain ⟨y0,y1,y2,y3,y4,y5,hbx⟩:=Zk HX5.out;have HRC:=Za (fun (w7:World) (hb:Below W5.heap.size W5 w7)=>RC.out.below (HBW5.out.trans (hb.mono HBW5.out.size)));have HWO:=Za (fun (w7:World) (hb:Below W5.heap.size W5 w7)=>ZcW RA.out HA.out HTS.out (by have:=HLEN.out;omega) HLA.out 1 (by decide) w7 (HBW5.out.trans (hb.mono HBW5.out.size)) (.slice (some a1) L1 c1) (by rw [HQ1.out];exact (RK1.out.below hb).rinN HL1.out));have HRV5:=Za (show Zh ([c,Zi (Zt a) (inK a 1)]++[b])≤200000 by have h1:=HLEN.out;have h2:=Zb8 HA.out HTS.out 1;simp [Zh];omega);have q2w:=(HBW5.out.cell (p:=⟨ad.block,ad.off+2,none⟩) HAB.out).trans HQ2.out;have HQ2w:=Za q2w;clear q2w
        have HREST:=Za (fun (w7:World) (hb:Below W5.heap.size W5 w7)=>show KsM w7 (.slice (some ⟨ad.block,ad.off+2,none⟩) 1 (ck - 2)) [b] from ⟨_,_,[(some ab,cb)],rfl,fun _=>⟨_,rfl,Nat.lt_of_lt_of_le HAB.out (Nat.le_trans HBW5.out.size hb.size),fun j u hj=>by
         match j with
         | 0 =>
          simp [slv] at hj;rw [←hj,show (⟨ad.block,ad.off+2,none⟩:Addr).add 0=⟨ad.block,ad.off+2,none⟩ by simp [Addr.add],HLB.out];exact (hb.cell (p:=⟨ad.block,ad.off+2,none⟩) (Nat.lt_of_lt_of_le HAB.out HBW5.out.size)).trans HQ2w.out
         | j+1=>simp [slv] at hj⟩,⟨rfl,fun i oa c l h1 h2=>by
         match i with
         | 0 =>
          simp at h1 h2;obtain ⟨rfl,rfl⟩:=h1;subst h2;have h9:=RB.out.below (HBW5.out.trans (hb.mono HBW5.out.size));exact ⟨h9.s,h9.n,h9.m⟩
         | i+1=>simp at h1⟩,by simp;omega⟩)
        refine ZB (JG W5 (K19 (.agg #[.int .i64 x.k,.int .i64 x.a,.int .i64 x.b,.int .i64 x.c,.int .i64 x.d,.int .i64 x.n]) (.slice (some ac) LC cc) (.slice (some aa) LA ca) (.slice (some adk) NK ckk) (.pointer (some ⟨adk.block,adk.off+1,none⟩)) (.slice (some a1) L1 c1) (.slice (some ad) 3 ck) (.slice (some ⟨ad.block,ad.off+2,none⟩) 1 (ck - 2)) c (Zi (Zt a) (inK a 1)) [b] (x.kid ([c,(Zi (Zt a) (inK a 1))]++[b]).length::([c,(Zi (Zt a) (inK a 1))]++[b]).flatten))) [[],[],[],[],[3],[3,4],[2,3,4,5],[1,2,3,4,5,6],[],[8],[1,2,3,4,5,6,7,8,9],[0,1,2,3,4,5,6,7,8,9,10],[0,1,2,3,4,5,6,7,8,9,10,11],[0,1,2,3,4,5,6,7,8,9,10,11,12],[0,1,2,3,4,5,6,7,8,9,10,11,12,13]] (by kernel_rfl) (by kernel_rfl) (fun vs=>JG.start vs (fun i v w hi=>by match i,hi with | _+15,_=>trivial)) (fun vs=>?_);refine Zb rfl (fun S w9 hS hA hD hJ R hR=>?_) (fun K hK=>?_)
        · have z0:=(hJ.b.cell (p:=⟨w.heap.size,0,none⟩) hbx).trans y0;have z1:=(hJ.b.cell (p:=⟨w.heap.size,1,none⟩) hbx).trans y1;have z2:=(hJ.b.cell (p:=⟨w.heap.size,2,none⟩) hbx).trans y2;have z3:=(hJ.b.cell (p:=⟨w.heap.size,3,none⟩) hbx).trans y3;have z4:=(hJ.b.cell (p:=⟨w.heap.size,4,none⟩) hbx).trans y4;have z5:=(hJ.b.cell (p:=⟨w.heap.size,5,none⟩) hbx).trans y5;go_simp;exact hR _ _ (hJ.step (ZP _ _ _ _ _ _ _ _ _ _ _ _) br_ rfl)
        go_simp;refine hK _ ?_;clear hK K;refine Zb rfl (fun S w9 hS hA hD hJ R hR=>?_) (fun K hK=>?_)
        · go_simp;exact hR _ _ (hJ.step (ZP _ _ _ _ _ _ _ _ _ _ _ _) br_ rfl)
        go_simp;refine hK _ ?_;clear hK K;refine Zb rfl (fun S w9 hS hA hD hJ R hR=>?_) (fun K hK=>?_)
        · go_simp;exact hR _ _ (hJ.step (ZP _ _ _ _ _ _ _ _ _ _ _ _) br_ rfl)
        go_simp;refine hK _ ?_;clear hK K;refine Zb rfl (fun S w9 hS hA hD hJ R hR=>?_) (fun K hK=>?_)
        · go_simp;exact hR _ _ (hJ.step (ZP _ _ _ _ _ _ _ _ _ _ _ _) br_ rfl)
        go_simp;refine hK _ ?_;clear hK K;refine Zb rfl (fun S w9 hS hA hD hJ R hR=>?_) (fun K hK=>?_)
        · have k3:vs 3=_:=hJ.k 3 (hA 3 (by decide));simp only [k3];go_simp;exact hR _ _ (hJ.step (ZP _ _ _ _ _ _ _ _ _ _ _ _) br_ rfl)
        go_simp;refine hK _ ?_;clear hK K;refine Zb rfl (fun S w9 hS hA hD hJ R hR=>?_) (fun K hK=>?_)
        · have k4:vs 4=_:=hJ.k 4 (hA 4 (by decide));have hc:=(hJ.b.cell (p:=⟨adk.block,adk.off+1,none⟩) habk).trans qk1;simp only [k4];go_simp;exact hR _ _ (hJ.step (ZP _ _ _ _ _ _ _ _ _ _ _ _) br_ rfl)
        go_simp;refine hK _ ?_;clear hK K;refine Zb rfl (fun S w9 hS hA hD hJ R hR=>?_) (fun K hK=>?_)
        · have k2:vs 2=_:=hJ.k 2 (hA 2 (by decide));have k5:vs 5=_:=hJ.k 5 (hA 5 (by decide));refine pc_ Zf2 (kd_ (HWO.out w9 hJ.b) fun u _ e2 e3=>hR _ _ (hJ.step (ZP _ _ _ _ _ _ _ _ _ _ _ _) e3 e2)) rfl ?_;simp [Act.eval,Act.put,k2,k5]
        go_simp;refine hK _ ?_;clear hK K;refine Zb rfl (fun S w9 hS hA hD hJ R hR=>?_) (fun K hK=>?_)
        · have k1:vs 1=_:=hJ.k 1 (hA 1 (by decide));obtain ⟨aw,cw,k6,hrw⟩:=hJ.k 6 (hA 6 (by decide));have HRW9:=Za hrw;clear hrw;have hfin:=hR _ _ (hJ.step (j:=7) (ZP _ _ _ _ _ _ _ _ _ _ _ _) ((Below.refl _ w9).alloc lr_ (.cells #[(.slice (some ac) LC cc),.slice (some aw) (Zi (Zt a) (inK a 1)).length cw] 26)) (⟨w9.heap.size,[(some ac,cc),(some aw,cw)],rfl,by simpa [slv,HLC.out] using Blk.new w9 26 #[(.slice (some ac) LC cc),.slice (some aw) (Zi (Zt a) (inK a 1)).length cw],ev2 (HRC.out _ (hJ.b.alloc hJ.b.size _)) (HRW9.out.below ((Below.refl _ w9).alloc lr_ _))⟩));simp only [k1,k6];go_simp;exact hfin
        go_simp;refine hK _ ?_;clear hK K;refine Zb rfl (fun S w9 hS hA hD hJ R hR=>?_) (fun K hK=>?_)
        · go_simp;exact hR _ _ (hJ.step (ZP _ _ _ _ _ _ _ _ _ _ _ _) br_ rfl)
        go_simp;refine hK _ ?_;clear hK K;refine Zb rfl (fun S w9 hS hA hD hJ R hR=>?_) (fun K hK=>?_)
        · have k8:vs 8=_:=hJ.k 8 (hA 8 (by decide));simp only [k8];go_simp;exact hR _ _ (hJ.step (ZP _ _ _ _ _ _ _ _ _ _ _ _) br_ rfl)
        go_simp;refine hK _ ?_;clear hK K;refine Zb rfl (fun S w9 hS hA hD hJ R hR=>?_) (fun K hK=>?_)
        · obtain ⟨g,rs,k7,hg,he⟩:=hJ.k 7 (hA 7 (by decide));have k9:vs 9=_:=hJ.k 9 (hA 9 (by decide));obtain ⟨u,w8,hrun,hb8,hk8⟩:=Zfy 25 hg he (HREST.out w9 hJ.b) (by simp) (by simp);have hfin:=hR _ _ (hJ.step (j:=10) (ZP _ _ _ _ _ _ _ _ _ _ _ _) hb8 hk8);exact Zaq (.tmp 95) (.tmp 97) 25 (by rfl) _ _ (by simp [Act.eval,Act.put,k7]) (by simp [Act.eval,Act.put,k9]) hrun hfin
        go_simp;refine hK _ ?_;clear hK K;refine Zb rfl (fun S w9 hS hA hD hJ R hR=>?_) (fun K hK=>?_)
        · have k0:vs 0=_:=hJ.k 0 (hA 0 (by decide));have k10:KsM w9 (vs 10) ([c,(Zi (Zt a) (inK a 1))]++[b]):=hJ.k 10 (hA 10 (by decide));refine pc_ Zel (kd_ (Zdw w9 x (vs 10) ([c,(Zi (Zt a) (inK a 1))]++[b]) k10 (by simp) HRV5.out) fun u _ e2 e3=>hR _ _ (hJ.step (ZP _ _ _ _ _ _ _ _ _ _ _ _) e3 e2)) rfl ?_;simp [Act.eval,Act.put,k0]
        go_simp;refine hK _ ?_;clear hK K;refine Zb rfl (fun S w9 hS hA hD hJ R hR=>?_) (fun K hK=>?_)
        · go_simp;exact hR _ _ (hJ.step (ZP _ _ _ _ _ _ _ _ _ _ _ _) br_ rfl)
        go_simp;refine hK _ ?_;clear hK K;refine Zb rfl (fun S w9 hS hA hD hJ R hR=>?_) (fun K hK=>?_)
        · have k11:Rin w9 (vs 11) (some (x.kid ([c,(Zi (Zt a) (inK a 1))]++[b]).length::([c,(Zi (Zt a) (inK a 1))]++[b]).flatten)):=hJ.k 11 (hA 11 (by decide));go_simp;exact hR _ _ (hJ.step (ZP _ _ _ _ _ _ _ _ _ _ _ _) br_ k11)
        go_simp;refine hK _ ?_;clear hK K;refine Zb rfl (fun S w9 hS hA hD hJ R hR=>?_) (fun K hK=>?_)
        · go_simp;exact hR _ _ (hJ.step (ZP _ _ _ _ _ _ _ _ _ _ _ _) br_ rfl)
        go_simp;refine hK _ ?_;clear hK K;refine Z2 (fun w7 hJ=>?_);have k12:vs 12=_:=hJ.k 12 rfl;have k13:Rin w7 (vs 13) (some (x.kid ([c,(Zi (Zt a) (inK a 1))]++[b]).length::([c,(Zi (Zt a) (inK a 1))]++[b]).flatten)):=hJ.k 13 rfl;have k14:vs 14=_:=hJ.k 14 rfl;have HJB:=Za hJ.b;have HK13:=Za k13;clear hJ k13;simp only [k12,k14];clear k12 k14;go_wp2_with fail;go_ret3;exact ⟨by rw [HV.out];exact ⟨_,rfl,by simpa using HK13.out⟩,HBW5.out.trans (HJB.out.mono HBW5.out.size)⟩
       | false =>
        cases tb with
        | false =>
         have HV:=Za (show Z3 x c a (some b) c0 a0 b0=none by rw [HV0.out];simp [h29,hz,HTS.out,HTB.out]);clear HV0;clear h29 hz;go_wp2_with (go_at_call 122;with_reducible refine (HT0.out _ HB2.out).mono ?_;rintro en w9 ⟨rfl,rfl⟩);go_wp2_with (go_at_call 122;with_reducible refine (HT1.out _ HB2.out).mono ?_;rintro en w9 ⟨rfl,rfl⟩);go_wp2_with (go_at_call 168;with_reducible refine (HSM.out _ HB2.out).mono ?_;rintro en w5 ⟨v5,rfl,-,hb5⟩;have HB5:=Za (HB2.out.trans (hb5.mono HB2.out.size));have HX5:=Za (HX2.out.below hb5 HX2.out.lt);clear hb5);go_wp2_with (go_at_call 168;with_reducible refine (HSB.out _ HB5.out).mono ?_;rintro en w6 ⟨v6,rfl,-,hb6⟩;have HB6:=Za (HB5.out.trans (hb6.mono HB5.out.size));clear hb6);go_ret3;exact ⟨by rw [HV.out];rfl,HB6.out⟩
        | true =>
         have HV:=Za (show Z3 x c a (some b) c0 a0 b0=some (13,some (x.kid 3::[c,a,(Zi (Zt b) (inK b 2))].flatten)) by rw [HV0.out];simp [h29,hz,HTS.out,HTB.out]);clear HV0;clear h29 hz;obtain ⟨r,sp,q0,q1,sp2,e1,e2,e3,e4,e5,e6⟩:=HBb.out.inn HTB.out;rcases sp2 with _ | ⟨q2,sp3⟩
         · have HI:=Za e2;have HIN:=Za (show inK b 2=none by unfold inK;rw [e2];rfl);clear e1 e2 e3 e4 e5 e6;go_wp2_with (go_at_call 122;with_reducible refine (HT0.out _ HB2.out).mono ?_;rintro en w9 ⟨rfl,rfl⟩);go_wp2_with (go_at_call 122;with_reducible refine (HT1.out _ HB2.out).mono ?_;rintro en w9 ⟨rfl,rfl⟩);go_wp2_with (go_at_call 168;with_reducible refine (HSM.out _ HB2.out).mono ?_;rintro en w5 ⟨v5,rfl,-,hb5⟩;have HB5:=Za (HB2.out.trans (hb5.mono HB2.out.size));have HX5:=Za (HX2.out.below hb5 HX2.out.lt);clear hb5)
           go_upto_region 26 with (
            go_at_call 168;with_reducible refine (HSB.out _ HB5.out).mono ?_
            rintro en W6 ⟨v6,rfl,hk6,hb6⟩;have HB6:=Za hb6;obtain ⟨sp5,hi5,hkm⟩:=hk6 (by simp);rw [HI.out] at hi5;injection hi5 with hi5;subst hi5;obtain ⟨adk,ckk,rfl,habk,hckk,hxk⟩:=hkm.at_ (by simp);simp only [List.map_cons,List.map_nil,List.length_cons,List.length_nil]
            clear hb6 hk6 hkm hxk)
           have HBW6:=Za (HB5.out.trans (HB6.out.mono HB5.out.size));have HX6:=Za (HX5.out.below HB6.out HX5.out.lt);clear y0 y1 y2 y3 y4 y5 hbx;obtain ⟨y0,y1,y2,y3,y4,y5,hbx⟩:=Zk HX6.out;have HRC:=Za (fun (w7:World) (hb:Below W6.heap.size W6 w7)=>RC.out.below (HBW6.out.trans (hb.mono HBW6.out.size)));have HRA:=Za (fun (w7:World) (hb:Below W6.heap.size W6 w7)=>RA.out.below (HBW6.out.trans (hb.mono HBW6.out.size)));have HWO:=Za (fun (w7:World) (hb:Below W6.heap.size W6 w7)=>ZcW RB.out HBb.out HTB.out (by have:=HLEN.out;omega) HLB.out 2 (by decide) w7 (HBW6.out.trans (hb.mono HBW6.out.size)) (.slice none 0 0) (by rw [HIN.out];exact rfl));have HRV6:=Za (show Zh [c,a,(Zi (Zt b) (inK b 2))]≤200000 by have h1:=HLEN.out;have h2:=Zb8 HBb.out HTB.out 2;simp [Zh];omega);refine ZB (JG W6 (K26 (.agg #[.int .i64 x.k,.int .i64 x.a,.int .i64 x.b,.int .i64 x.c,.int .i64 x.d,.int .i64 x.n]) (.slice (some ac) LC cc) (.slice (some aa) LA ca) (.slice (some ab) LB cb) (.slice none 0 0) c a (Zi (Zt b) (inK b 2)) (x.kid 3::[c,a,(Zi (Zt b) (inK b 2))].flatten))) [[],[],[],[],[],[3,4],[1,2,3,4,5],[0,1,2,3,4,5,6],[0,1,2,3,4,5,6,7],[0,1,2,3,4,5,6,7,8],[0,1,2,3,4,5,6,7,8,9]] (by kernel_rfl) (by kernel_rfl) (fun vs=>JG.start vs (fun i v w hi=>by match i,hi with | _+11,_=>trivial)) (fun vs=>?_);refine Zb rfl (fun S w9 hS hA hD hJ R hR=>?_) (fun K hK=>?_)
           · have z0:=(hJ.b.cell (p:=⟨w.heap.size,0,none⟩) hbx).trans y0;have z1:=(hJ.b.cell (p:=⟨w.heap.size,1,none⟩) hbx).trans y1;have z2:=(hJ.b.cell (p:=⟨w.heap.size,2,none⟩) hbx).trans y2;have z3:=(hJ.b.cell (p:=⟨w.heap.size,3,none⟩) hbx).trans y3;have z4:=(hJ.b.cell (p:=⟨w.heap.size,4,none⟩) hbx).trans y4;have z5:=(hJ.b.cell (p:=⟨w.heap.size,5,none⟩) hbx).trans y5;go_simp;exact hR _ _ (hJ.step (ZaP _ _ _ _ _ _ _ _ _) br_ rfl)
           go_simp;refine hK _ ?_;clear hK K;refine Zb rfl (fun S w9 hS hA hD hJ R hR=>?_) (fun K hK=>?_)
           · go_simp;exact hR _ _ (hJ.step (ZaP _ _ _ _ _ _ _ _ _) br_ rfl)
           go_simp;refine hK _ ?_;clear hK K;refine Zb rfl (fun S w9 hS hA hD hJ R hR=>?_) (fun K hK=>?_)
           · go_simp;exact hR _ _ (hJ.step (ZaP _ _ _ _ _ _ _ _ _) br_ rfl)
           go_simp;refine hK _ ?_;clear hK K;refine Zb rfl (fun S w9 hS hA hD hJ R hR=>?_) (fun K hK=>?_)
           · go_simp;exact hR _ _ (hJ.step (ZaP _ _ _ _ _ _ _ _ _) br_ rfl)
           go_simp;refine hK _ ?_;clear hK K;refine Zb rfl (fun S w9 hS hA hD hJ R hR=>?_) (fun K hK=>?_)
           · go_simp;exact hR _ _ (hJ.step (ZaP _ _ _ _ _ _ _ _ _) br_ rfl)
           go_simp;refine hK _ ?_;clear hK K;refine Zb rfl (fun S w9 hS hA hD hJ R hR=>?_) (fun K hK=>?_)
           · have k3:vs 3=_:=hJ.k 3 (hA 3 (by decide));have k4:vs 4=_:=hJ.k 4 (hA 4 (by decide));refine pc_ Zf2 (kd_ (HWO.out w9 hJ.b) fun u _ e2 e3=>hR _ _ (hJ.step (ZaP _ _ _ _ _ _ _ _ _) e3 e2)) rfl ?_;simp [Act.eval,Act.put,k3,k4]
           go_simp;refine hK _ ?_;clear hK K;refine Zb rfl (fun S w9 hS hA hD hJ R hR=>?_) (fun K hK=>?_)
           · have k1:vs 1=_:=hJ.k 1 (hA 1 (by decide));have k2:vs 2=_:=hJ.k 2 (hA 2 (by decide));obtain ⟨aw,cw,k5,hrw⟩:=hJ.k 5 (hA 5 (by decide));have HRW9:=Za hrw;clear hrw;have hfin:=hR _ _ (hJ.step (j:=6) (ZaP _ _ _ _ _ _ _ _ _) ((Below.refl _ w9).alloc lr_ (.cells #[(.slice (some ac) LC cc),(.slice (some aa) LA ca),.slice (some aw) (Zi (Zt b) (inK b 2)).length cw] 26)) (Zb2 (rest:=[]) (ev3 (HRC.out _ (hJ.b.alloc hJ.b.size _)) (HRA.out _ (hJ.b.alloc hJ.b.size _)) (HRW9.out.below ((Below.refl _ w9).alloc lr_ _))) (by simpa [slv,HLC.out,HLA.out] using Blk.new w9 26 #[(.slice (some ac) LC cc),(.slice (some aa) LA ca),.slice (some aw) (Zi (Zt b) (inK b 2)).length cw]) lr_ rfl));simp only [k1,k2,k5];go_simp;exact hfin
           go_simp;refine hK _ ?_;clear hK K;refine Zb rfl (fun S w9 hS hA hD hJ R hR=>?_) (fun K hK=>?_)
           · have k0:vs 0=_:=hJ.k 0 (hA 0 (by decide));have k6:KsM w9 (vs 6) [c,a,(Zi (Zt b) (inK b 2))]:=hJ.k 6 (hA 6 (by decide));refine pc_ Zel (kd_ (Zdw w9 x (vs 6) [c,a,(Zi (Zt b) (inK b 2))] k6 (by simp) HRV6.out) fun u _ e2 e3=>hR _ _ (hJ.step (ZaP _ _ _ _ _ _ _ _ _) e3 e2)) rfl ?_;simp [Act.eval,Act.put,k0]
           go_simp;refine hK _ ?_;clear hK K;refine Zb rfl (fun S w9 hS hA hD hJ R hR=>?_) (fun K hK=>?_)
           · go_simp;exact hR _ _ (hJ.step (ZaP _ _ _ _ _ _ _ _ _) br_ rfl)
           go_simp;refine hK _ ?_;clear hK K;refine Zb rfl (fun S w9 hS hA hD hJ R hR=>?_) (fun K hK=>?_)
           · have k7:Rin w9 (vs 7) (some (x.kid 3::[c,a,(Zi (Zt b) (inK b 2))].flatten)):=hJ.k 7 (hA 7 (by decide));go_simp;exact hR _ _ (hJ.step (ZaP _ _ _ _ _ _ _ _ _) br_ k7)
           go_simp;refine hK _ ?_;clear hK K;refine Zb rfl (fun S w9 hS hA hD hJ R hR=>?_) (fun K hK=>?_)
           · go_simp;exact hR _ _ (hJ.step (ZaP _ _ _ _ _ _ _ _ _) br_ rfl)
           go_simp;refine hK _ ?_;clear hK K;refine Z2 (fun w7 hJ=>?_);have k8:vs 8=_:=hJ.k 8 rfl;have k9:Rin w7 (vs 9) (some (x.kid 3::[c,a,(Zi (Zt b) (inK b 2))].flatten)):=hJ.k 9 rfl;have k10:vs 10=_:=hJ.k 10 rfl;have HJB:=Za hJ.b;have HK9:=Za k9;clear hJ k9;simp only [k8,k10];clear k8 k10;go_wp2_with fail;go_ret3;exact ⟨by rw [HV.out];exact ⟨_,rfl,HK9.out⟩,HBW6.out.trans (HJB.out.mono HBW6.out.size)⟩
         · obtain rfl:sp3=[]:=by simpa using e3
           have HI:=Za e2;have HIN:=Za (show inK b 2=some (sub b q2) by unfold inK;rw [e2];rfl);have HL4:=Za (e4 q2 (by simp)).2;obtain ⟨L1,hL1⟩:∃n,(sub b q2).length=n:=⟨_,rfl⟩;have HL1:=Za hL1;clear hL1;clear e1 e2 e3 e4 e5 e6;go_wp2_with (go_at_call 122;with_reducible refine (HT0.out _ HB2.out).mono ?_;rintro en w9 ⟨rfl,rfl⟩);go_wp2_with (go_at_call 122;with_reducible refine (HT1.out _ HB2.out).mono ?_;rintro en w9 ⟨rfl,rfl⟩);go_wp2_with (go_at_call 168;with_reducible refine (HSM.out _ HB2.out).mono ?_;rintro en w5 ⟨v5,rfl,-,hb5⟩;have HB5:=Za (HB2.out.trans (hb5.mono HB2.out.size));have HX5:=Za (HX2.out.below hb5 HX2.out.lt);clear hb5)
           go_upto_region 26 with (
            go_at_call 168;with_reducible refine (HSB.out _ HB5.out).mono ?_
            rintro en W6 ⟨v6,rfl,hk6,hb6⟩;have HB6:=Za hb6;obtain ⟨sp5,hi5,hkm⟩:=hk6 (by simp);rw [HI.out] at hi5;injection hi5 with hi5;subst hi5;obtain ⟨adk,ckk,rfl,habk,hckk,hxk⟩:=hkm.at_ (by simp);simp only [List.map_cons,List.map_nil,List.length_cons,List.length_nil];obtain ⟨a1,c1,qk1,rk1⟩:=hxk 2 (sub b q2) rfl HL4.out;rw [show adk.add 2=⟨adk.block,adk.off+2,none⟩ by simp [Addr.add],HL1.out] at qk1;have RK1:=Za rk1;clear rk1
            clear hb6 hk6 hkm hxk)
           have HBW6:=Za (HB5.out.trans (HB6.out.mono HB5.out.size));have HX6:=Za (HX5.out.below HB6.out HX5.out.lt);clear y0 y1 y2 y3 y4 y5 hbx;obtain ⟨y0,y1,y2,y3,y4,y5,hbx⟩:=Zk HX6.out;have HRC:=Za (fun (w7:World) (hb:Below W6.heap.size W6 w7)=>RC.out.below (HBW6.out.trans (hb.mono HBW6.out.size)));have HRA:=Za (fun (w7:World) (hb:Below W6.heap.size W6 w7)=>RA.out.below (HBW6.out.trans (hb.mono HBW6.out.size)));have HWO:=Za (fun (w7:World) (hb:Below W6.heap.size W6 w7)=>ZcW RB.out HBb.out HTB.out (by have:=HLEN.out;omega) HLB.out 2 (by decide) w7 (HBW6.out.trans (hb.mono HBW6.out.size)) (.slice (some a1) L1 c1) (by rw [HIN.out];exact (RK1.out.below hb).rinN HL1.out));have HRV6:=Za (show Zh [c,a,(Zi (Zt b) (inK b 2))]≤200000 by have h1:=HLEN.out;have h2:=Zb8 HBb.out HTB.out 2;simp [Zh];omega);refine ZB (JG W6 (K26 (.agg #[.int .i64 x.k,.int .i64 x.a,.int .i64 x.b,.int .i64 x.c,.int .i64 x.d,.int .i64 x.n]) (.slice (some ac) LC cc) (.slice (some aa) LA ca) (.slice (some ab) LB cb) (.slice (some a1) L1 c1) c a (Zi (Zt b) (inK b 2)) (x.kid 3::[c,a,(Zi (Zt b) (inK b 2))].flatten))) [[],[],[],[],[],[3,4],[1,2,3,4,5],[0,1,2,3,4,5,6],[0,1,2,3,4,5,6,7],[0,1,2,3,4,5,6,7,8],[0,1,2,3,4,5,6,7,8,9]] (by kernel_rfl) (by kernel_rfl) (fun vs=>JG.start vs (fun i v w hi=>by match i,hi with | _+11,_=>trivial)) (fun vs=>?_);refine Zb rfl (fun S w9 hS hA hD hJ R hR=>?_) (fun K hK=>?_)
           · have z0:=(hJ.b.cell (p:=⟨w.heap.size,0,none⟩) hbx).trans y0;have z1:=(hJ.b.cell (p:=⟨w.heap.size,1,none⟩) hbx).trans y1;have z2:=(hJ.b.cell (p:=⟨w.heap.size,2,none⟩) hbx).trans y2;have z3:=(hJ.b.cell (p:=⟨w.heap.size,3,none⟩) hbx).trans y3;have z4:=(hJ.b.cell (p:=⟨w.heap.size,4,none⟩) hbx).trans y4;have z5:=(hJ.b.cell (p:=⟨w.heap.size,5,none⟩) hbx).trans y5;go_simp;exact hR _ _ (hJ.step (ZaP _ _ _ _ _ _ _ _ _) br_ rfl)
           go_simp;refine hK _ ?_;clear hK K;refine Zb rfl (fun S w9 hS hA hD hJ R hR=>?_) (fun K hK=>?_)
           · go_simp;exact hR _ _ (hJ.step (ZaP _ _ _ _ _ _ _ _ _) br_ rfl)
           go_simp;refine hK _ ?_;clear hK K;refine Zb rfl (fun S w9 hS hA hD hJ R hR=>?_) (fun K hK=>?_)
           · go_simp;exact hR _ _ (hJ.step (ZaP _ _ _ _ _ _ _ _ _) br_ rfl)
           go_simp;refine hK _ ?_;clear hK K;refine Zb rfl (fun S w9 hS hA hD hJ R hR=>?_) (fun K hK=>?_)
           · go_simp;exact hR _ _ (hJ.step (ZaP _ _ _ _ _ _ _ _ _) br_ rfl)
           go_simp;refine hK _ ?_;clear hK K;refine Zb rfl (fun S w9 hS hA hD hJ R hR=>?_) (fun K hK=>?_)
           · go_simp;exact hR _ _ (hJ.step (ZaP _ _ _ _ _ _ _ _ _) br_ rfl)
           go_simp;refine hK _ ?_;clear hK K;refine Zb rfl (fun S w9 hS hA hD hJ R hR=>?_) (fun K hK=>?_)
           · have k3:vs 3=_:=hJ.k 3 (hA 3 (by decide));have k4:vs 4=_:=hJ.k 4 (hA 4 (by decide));refine pc_ Zf2 (kd_ (HWO.out w9 hJ.b) fun u _ e2 e3=>hR _ _ (hJ.step (ZaP _ _ _ _ _ _ _ _ _) e3 e2)) rfl ?_;simp [Act.eval,Act.put,k3,k4]
           go_simp;refine hK _ ?_;clear hK K;refine Zb rfl (fun S w9 hS hA hD hJ R hR=>?_) (fun K hK=>?_)
           · have k1:vs 1=_:=hJ.k 1 (hA 1 (by decide));have k2:vs 2=_:=hJ.k 2 (hA 2 (by decide));obtain ⟨aw,cw,k5,hrw⟩:=hJ.k 5 (hA 5 (by decide));have HRW9:=Za hrw;clear hrw;have hfin:=hR _ _ (hJ.step (j:=6) (ZaP _ _ _ _ _ _ _ _ _) ((Below.refl _ w9).alloc lr_ (.cells #[(.slice (some ac) LC cc),(.slice (some aa) LA ca),.slice (some aw) (Zi (Zt b) (inK b 2)).length cw] 26)) (Zb2 (rest:=[]) (ev3 (HRC.out _ (hJ.b.alloc hJ.b.size _)) (HRA.out _ (hJ.b.alloc hJ.b.size _)) (HRW9.out.below ((Below.refl _ w9).alloc lr_ _))) (by simpa [slv,HLC.out,HLA.out] using Blk.new w9 26 #[(.slice (some ac) LC cc),(.slice (some aa) LA ca),.slice (some aw) (Zi (Zt b) (inK b 2)).length cw]) lr_ rfl));simp only [k1,k2,k5];go_simp;exact hfin
           go_simp;refine hK _ ?_;clear hK K;refine Zb rfl (fun S w9 hS hA hD hJ R hR=>?_) (fun K hK=>?_)
           · have k0:vs 0=_:=hJ.k 0 (hA 0 (by decide));have k6:KsM w9 (vs 6) [c,a,(Zi (Zt b) (inK b 2))]:=hJ.k 6 (hA 6 (by decide));refine pc_ Zel (kd_ (Zdw w9 x (vs 6) [c,a,(Zi (Zt b) (inK b 2))] k6 (by simp) HRV6.out) fun u _ e2 e3=>hR _ _ (hJ.step (ZaP _ _ _ _ _ _ _ _ _) e3 e2)) rfl ?_;simp [Act.eval,Act.put,k0]
           go_simp;refine hK _ ?_;clear hK K;refine Zb rfl (fun S w9 hS hA hD hJ R hR=>?_) (fun K hK=>?_)
           · go_simp;exact hR _ _ (hJ.step (ZaP _ _ _ _ _ _ _ _ _) br_ rfl)
           go_simp;refine hK _ ?_;clear hK K;refine Zb rfl (fun S w9 hS hA hD hJ R hR=>?_) (fun K hK=>?_)
           · have k7:Rin w9 (vs 7) (some (x.kid 3::[c,a,(Zi (Zt b) (inK b 2))].flatten)):=hJ.k 7 (hA 7 (by decide));go_simp;exact hR _ _ (hJ.step (ZaP _ _ _ _ _ _ _ _ _) br_ k7)
           go_simp;refine hK _ ?_;clear hK K;refine Zb rfl (fun S w9 hS hA hD hJ R hR=>?_) (fun K hK=>?_)
           · go_simp;exact hR _ _ (hJ.step (ZaP _ _ _ _ _ _ _ _ _) br_ rfl)
           go_simp;refine hK _ ?_;clear hK K;refine Z2 (fun w7 hJ=>?_);have k8:vs 8=_:=hJ.k 8 rfl;have k9:Rin w7 (vs 9) (some (x.kid 3::[c,a,(Zi (Zt b) (inK b 2))].flatten)):=hJ.k 9 rfl;have k10:vs 10=_:=hJ.k 10 rfl;have HJB:=Za hJ.b;have HK9:=Za k9;clear hJ k9;simp only [k8,k10];clear k8 k10;go_wp2_with fail;go_ret3;exact ⟨by rw [HV.out];exact ⟨_,rfl,HK9.out⟩,HBW6.out.trans (HJB.out.mono HBW6.out.size)⟩
end
section
attribute [local go_sem] par Zah
structure JV (W:World) (K:(Nat→Value)→Nat→World→Prop) (S:Nat→Bool) (vs:Nat→Value) (w:World):Prop where
 b:Below W.heap.size W w
 k:∀i,S i=true→K vs i w
theorem JV.step {W w w':World} {K:(Nat→Value)→Nat→World→Prop} {S:Nat→Bool} {vs:Nat→Value} {j:Nat} {u:Value} (h:JV W K S vs w) (hb:Below W.heap.size W w') (hk:∀i,i≠j→S i=true→K vs i w→K (upn vs j u) i w') (hu:K (upn vs j u) j w'):JV W K (upn S j true) (upn vs j u) w':=by
 refine ⟨hb,fun i hi=>?_⟩
 by_cases e:i=j
 · subst e;exact hu
 · rw [Zd e] at hi;exact hk i e hi (h.k i hi)
theorem JV.start {W:World} {K:(Nat→Value)→Nat→World→Prop} {n:Nat} (vs:Nat→Value) (h:∀vs i w,n≤i→K vs i w):JV W K (fun i=>decide (n≤i)) vs W.drew :=
 ⟨(Below.refl _ W).drew,fun i hi=>h vs i _ (by simpa using hi)⟩
def K17 (W:World) (lv iv pv xv:Value) (xc:Array Value) (n:Nat) (sv:List Value) (vs:Nat→Value):Nat→World→Prop
 | 0,_=>vs 0=lv
 | 1,_=>vs 1=iv
 | 2,_=>vs 2=pv
 | 3,_=>vs 3=xv
 | 4,_=>vs 4=lv
 | 5,_=>vs 5=iv
 | 6,w=>w.ownsRow W.heap.size 26 1 (vs 6) n sv
 | 7,w=>∃g cs,vs 7=.pointer (some ⟨g,0,none⟩)∧W.heap.size≤g∧Blk w g 49 cs∧cs.size=6
 | 8,w=>∃g,vs 7=.pointer (some ⟨g,0,none⟩)∧W.heap.size≤g∧Blk w g 49 xc
 | 9,w=>w.ownsRow W.heap.size 26 1 (vs 9) n sv
 | _,_=>True
theorem K17.keep {W w w':World} {lv iv pv xv:Value} {xc:Array Value} {n:Nat} {sv:List Value} {vs:Nat→Value} {i j:Nat} {u:Value} (h:K17 W lv iv pv xv xc n sv vs i w) (hb:Below w.heap.size w w') (hij:i≠j) (h8:i=8→j≠7):K17 W lv iv pv xv xc n sv (upn vs j u) i w':=by
 match i,h with
 | 0,h=>exact (Zd hij).trans h
 | 1,h=>exact (Zd hij).trans h
 | 2,h=>exact (Zd hij).trans h
 | 3,h=>exact (Zd hij).trans h
 | 4,h=>exact (Zd hij).trans h
 | 5,h=>exact (Zd hij).trans h
 | 6,h =>
  have h2:w.ownsRow W.heap.size 26 1 (vs 6) n sv:=h;show w'.ownsRow W.heap.size 26 1 (upn vs j u 6) n sv;rw [Zd hij];exact Zx h2 hb lr_
 | 7,h =>
  obtain ⟨g,cs,e,h1,h2,h3⟩:=h;exact ⟨g,cs,(Zd hij).trans e,h1,h2.below hb h2.lt,h3⟩
 | 8,h =>
  obtain ⟨g,e,h1,h2⟩:=h;exact ⟨g,(Zd (Ne.symm (h8 rfl))).trans e,h1,h2.below hb h2.lt⟩
 | 9,h =>
  have h2:w.ownsRow W.heap.size 26 1 (vs 9) n sv:=h;show w'.ownsRow W.heap.size 26 1 (upn vs j u 9) n sv;rw [Zd hij];exact Zx h2 hb lr_
 | _+10,_=>trivial
theorem K17.only {W w w':World} {lv iv pv xv:Value} {xc cs:Array Value} {n g:Nat} {sv:List Value} {vs:Nat→Value} {i:Nat} {u:Value} (h:K17 W lv iv pv xv xc n sv vs i w) (ho:Only (fun k=>k=g) w w') (hij:i≠8) (h7:∀g2,vs 7=.pointer (some ⟨g2,0,none⟩)→g2=g∧∃cs,Blk w' g 49 cs∧cs.size=6) (hg:Blk w g 49 cs):K17 W lv iv pv xv xc n sv (upn vs 8 u) i w':=by
 match i,h with
 | 0,h=>exact (Zd hij).trans h
 | 1,h=>exact (Zd hij).trans h
 | 2,h=>exact (Zd hij).trans h
 | 3,h=>exact (Zd hij).trans h
 | 4,h=>exact (Zd hij).trans h
 | 5,h=>exact (Zd hij).trans h
 | 6,h =>
  have h2:w.ownsRow W.heap.size 26 1 (vs 6) n sv:=h;show w'.ownsRow W.heap.size 26 1 (upn vs 8 u 6) n sv;rw [Zd hij];exact ZaG h2 ho (fun k hk hk2=>ZX h2 hg (by decide) (by rw [←hk2];exact hk))
 | 7,h =>
  obtain ⟨g2,cs2,e,h1,h2,h3⟩:=h;obtain ⟨e2,cs3,h4,h5⟩:=h7 g2 e;subst e2;exact ⟨g2,cs3,(Zd hij).trans e,h1,h4,h5⟩
 | 8,_=>exact absurd rfl hij
 | 9,h =>
  have h2:w.ownsRow W.heap.size 26 1 (vs 9) n sv:=h;show w'.ownsRow W.heap.size 26 1 (upn vs 8 u 9) n sv;rw [Zd hij];exact ZaG h2 ho (fun k hk hk2=>ZX h2 hg (by decide) (by rw [←hk2];exact hk))
 | _+10,_=>trivial
theorem Zcs {w:World} {g:Nat} {u0 u1 u2 u3 u4 u5:Value} (h:Blk w g 49 #[u0,u1,u2,u3,u4,u5]) (x:Ac) :
 Blk ((((((w.setCell ⟨g,0,none⟩ (.int .i64 x.k)).setCell ⟨g,1,none⟩ (.int .i64 x.a)).setCell ⟨g,2,none⟩ (.int .i64 x.b)).setCell ⟨g,3,none⟩ (.int .i64 x.c)).setCell ⟨g,4,none⟩ (.int .i64 x.d)).setCell ⟨g,5,none⟩ (.int .i64 x.n)) g 49 #[.int .i64 x.k,.int .i64 x.a,.int .i64 x.b,.int .i64 x.c,.int .i64 x.d,.int .i64 x.n] ∧
 Only (fun k=>k=g) w ((((((w.setCell ⟨g,0,none⟩ (.int .i64 x.k)).setCell ⟨g,1,none⟩ (.int .i64 x.a)).setCell ⟨g,2,none⟩ (.int .i64 x.b)).setCell ⟨g,3,none⟩ (.int .i64 x.c)).setCell ⟨g,4,none⟩ (.int .i64 x.d)).setCell ⟨g,5,none⟩ (.int .i64 x.n)):=by
 refine ⟨?_,((((((Only.refl (fun k=>k=g) w).setCell (p:=⟨g,0,none⟩) (.inl rfl) _).setCell (p:=⟨g,1,none⟩) (.inl rfl) _).setCell (p:=⟨g,2,none⟩) (.inl rfl) _).setCell (p:=⟨g,3,none⟩) (.inl rfl) _).setCell (p:=⟨g,4,none⟩) (.inl rfl) _).setCell (p:=⟨g,5,none⟩) (.inl rfl) _⟩;have h9:=(((((h.set_ 0 (.int .i64 x.k)).set_ 1 (.int .i64 x.a)).set_ 2 (.int .i64 x.b)).set_ 3 (.int .i64 x.c)).set_ 4 (.int .i64 x.d)).set_ 5 (.int .i64 x.n);exact h9
end
end Go.Proofs.Ytdpokdcendgfeaa
