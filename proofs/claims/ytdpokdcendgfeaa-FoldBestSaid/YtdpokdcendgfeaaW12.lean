/- Several texts in one: The walk of fold.left. The row above a row, as fold's parents tells it. Nothing here walks the program. Rows that are right, as lists: the same as rule's row tells of them. Nothing here names the program. Conditions: those of each. -/
import Derived.Test.YtdpokdcendgfeaaW11
import Derived.Test.YtdpokdcendgfeaaW3
set_option linter.unusedSimpArgs false
set_option linter.unusedVariables false
set_option maxHeartbeats 80000000
set_option maxRecDepth 100000
namespace Go.Proofs.Ytdpokdcendgfeaa
open Go.RowKit
def rowL (l:List Ac) (i:Nat):Ac:=l[i]?.getD ⟨0,0,0,0,0,0⟩
def spL (l:List Ac) (i:Nat):List (Nat×Nat):=(ZR l (rowL l i).n.toNat (i+1)).getD []
def endL (l:List Ac) (i:Nat):Nat:=(ZV l i 1).getD 0
def hsL (l:List Ac) (sp:List (Nat×Nat)):List Ac:=sp.map fun r=>rowL l r.1
def ZbT (l:List Ac) (i:Nat):Bool:=decide (0<i)&&decide ((rowL l ((Zcx l)[i]?.getD 0).toNat).k=1)
def Zaw (l:List Ac) (i:Nat):Option Fd :=
 if 16<(rowL l i).k then (Za5 (rowL l i).k ((spL l i).map (sub l)) (hsL l (spL l i))).map fun r=>⟨r.1,i,endL l i,r.2,1,1⟩
 else match Zaj l i (endL l i) (rowL l i) ((spL l i).map (sub l)) (hsL l (spL l i)) (ZbT l i) with
  | some f=>some f
  | none=>if i=0∧(rowL l 0).n=0 then some ⟨19,0,1,none,0,0⟩ else none
def Z6 (l:List Ac):Option Fd:=(List.range l.length).findSome? (Zaw l)
structure LkOk (l:List Ac) (i:Nat):Prop where
 k:ZR l (rowL l i).n.toNat (i+1)=some (spL l i)
 e:ZV l i 1=some (endL l i)
 x:16<(rowL l i).k→EOk l i (rowL l i) (spL l i) (hsL l (spL l i))
 d:¬ 16<(rowL l i).k→DOk l i (rowL l i) ((spL l i).map (sub l)) (hsL l (spL l i))
 up:0<i→∃p:Nat,(Zcx l)[i]? = some (p:Int)∧p<l.length
theorem Z5 {l:List Ac} {i:Nat} (h:i<l.length):l[i]? = some (rowL l i):=by
 unfold rowL;rw [ge_ h];rfl
theorem Zb7 {α : Type} {f:Nat→Option α} {n j:Nat} {x:α} (hj:j<n) (h:∀i,i<j→f i=none) (hx:f j=some x):(List.range n).findSome? f=some x:=by
 obtain ⟨m,rfl⟩:∃m,n=j+(m+1):=⟨n - j - 1,by omega⟩;rw [List.range_add,List.findSome?_append]
 have h1:(List.range j).findSome? f=none:=by
  rw [List.findSome?_eq_none_iff];intro i hi;exact h i (List.mem_range.1 hi)
 rw [h1,Option.none_or,List.range_succ_eq_map,List.map_cons,List.findSome?_cons];simp only [Nat.add_zero,hx]
theorem ZdG {α : Type} {f:Nat→Option α} {n:Nat} (h:∀i,i<n→f i=none):(List.range n).findSome? f=none:=by
 rw [List.findSome?_eq_none_iff];intro i hi;exact h i (List.mem_range.1 hi)
theorem Zdm {w:World} {v:Value} {o:Option (List Ac)} (h:Rin w v o):∃oa n c,v=.slice oa n c:=by
 cases o with
 | none=>exact ⟨none,0,0,h⟩
 | some l=>obtain ⟨oa,c,e⟩:=h.slice;exact ⟨oa,_,c,e⟩
theorem Zdy {w w':World} {v:Value} {o:Option (List Ac)} {g:Nat} {t:TypeId} {a0 a1 a2 a4 a5:Value} {oa:Option Addr} {na ca:Nat} (h:Rin w v o) (h1:Blk w g t #[a0,a1,a2,.slice oa na ca,a4,a5]) (ho:Only (fun k=>k=g) w w'):Rin w' v o:=by
 cases o with
 | none=>exact h
 | some l=>exact ZcK h h1 h1 (ho.mono (fun k hk=>.inl (.inl hk)))
theorem ZcJ {W:World} {g:Nat} {v0 v1 v2 v3 v4 v5:Value}:Only (fun k=>k=g) W ((((((W.setCell ⟨g,0,none⟩ v0).setCell ⟨g,1,none⟩ v1).setCell ⟨g,2,none⟩ v2).setCell ⟨g,3,none⟩ v3).setCell ⟨g,4,none⟩ v4).setCell ⟨g,5,none⟩ v5) :=
 ZS (p:=⟨g,5,none⟩) (ZS (p:=⟨g,4,none⟩) (ZS (p:=⟨g,3,none⟩) (ZS (p:=⟨g,2,none⟩) (ZS (p:=⟨g,1,none⟩) (ZS (p:=⟨g,0,none⟩) (Only.refl _ W) rfl) rfl) rfl) rfl) rfl) rfl
theorem ZjR {w:World} {v:Value} {o:Option (List Ac)} (h:Rin w v o) (m:Nat):Rin (w.drewN m) v o:=h.below (Zc (Below.refl _ w) m)
theorem ZfS (w:World) (oa:Option Addr) (c:Nat) (l:List Ac) (h:Src w oa l.length (acs l)) (hc:l.length≤c) (hcm:c≤maxLen) (hs:Z7 l) (hl:l.length≤131072) (hok:∀i,i<l.length→LkOk l i) :
 Calls Try.prog 52 #[.slice oa l.length c] w fun en w'=>Zep w' en (Z6 l)∧Below w.heap.size w w':=by
 have hln:=hs.1;have HB0:=Za ((Below.refl w.heap.size w).alloc lr_ (.cells #[.int .i64 0,.int .i64 0,.int .i64 0,.slice none 0 0,.int .i64 0,.int .i64 0] 90));have HR0:=Za (Blk.new w 90 #[.int .i64 0,.int .i64 0,.int .i64 0,.slice none 0 0,.int .i64 0,.int .i64 0]);have HRES:=Za (show Try.f52.results=#[.cell 2 90,.tmp 3] by rfl);have HOK:=Za hok;have HSM:=Za hs;have HL:=Za hl;obtain ⟨V,hV⟩:∃V,Z6 l=V:=⟨_,rfl⟩;rw [hV];have HV:=Za hV;obtain ⟨N,hN⟩:∃n,l.length=n:=⟨_,rfl⟩;have HSRC:=Za h;rw [hN];have HN:=Za hN;have hNl:N≤131072:=by omega
 have hcN:=hc;rw [hN] at hcN;have HCM:=Za hcm;clear h hok hs hl hV hN hc hcm
 by_cases hn0:N=0
 · have hnb:((N:Int) == 0)=true:=by simp [hn0]
   have HE:=Za (show V=none by rw [←HV.out];unfold Z6;rw [HN.out,hn0];rfl);clear hn0;go_enter Try.func52,Try.ntmps52;go_upto_region 1 with fail;go_step3;go_step;generalize w.alloc (.cells #[.int .i64 0,.int .i64 0,.int .i64 0,.slice none 0 0,.int .i64 0,.int .i64 0] 90)=W1 at HB0 HR0 ⊢;obtain ⟨gr,hgr⟩:∃g,w.heap.size=g:=⟨_,rfl⟩;rw [hgr] at HB0 HR0;simp only [hgr];have HG:=Za hgr;clear hgr;obtain ⟨r0,r1,r2,r3,r4,r5,hgrl⟩:=Zk HR0.out;have zr0:=HR0.out.frozen 0;have zr1:=HR0.out.frozen 1;have zr2:=HR0.out.frozen 2;have zr3:=HR0.out.frozen 3;have zr4:=HR0.out.frozen 4;have zr5:=HR0.out.frozen 5;go_wp2_with fail
   try rw [Exit.noGoto_ret]
   refine bodyPost_ret (v:=.tuple #[.agg #[.int .i64 0,.int .i64 0,.int .i64 0,.slice none 0 0,.int .i64 0,.int .i64 0],.bool false]) ?_ rfl ?_
   · simp only [results,HRES.out];go_simp
   have hb9:Below gr w ((((((W1.setCell ⟨gr,0,none⟩ (.int .i64 0)).setCell ⟨gr,1,none⟩ (.int .i64 0)).setCell ⟨gr,2,none⟩ (.int .i64 0)).setCell ⟨gr,3,none⟩ (.slice none 0 0)).setCell ⟨gr,4,none⟩ (.int .i64 0)).setCell ⟨gr,5,none⟩ (.int .i64 0)):=Zf (Zf (Zf (Zf (Zf (Zf HB0.out (by exact lr_)) (by exact lr_)) (by exact lr_)) (by exact lr_)) (by exact lr_)) (by exact lr_);exact ⟨by rw [HE.out];exact ⟨_,_,_,_,_,_,_,_,rfl⟩,by rw [HG.out];exact hb9⟩
 · have hnb:((N:Int) == 0)=false:=by simp [hn0]
   obtain ⟨ad,rfl,hadb,_⟩:=HSRC.out (by have:=HN.out;omega);have HRO:=Za (Ro.mk HSRC.out (by have:=HN.out;omega) HCM.out);have hpa:=ZgK (w.alloc (.cells #[.int .i64 0,.int .i64 0,.int .i64 0,.slice none 0 0,.int .i64 0,.int .i64 0] 90)) ad c l (HRO.out.below HB0.out) HSM.out;rw [HN.out] at hpa;have HPA:=Za hpa;clear hpa;go_enter Try.func52,Try.ntmps52;go_upto_region 1 with fail;go_step3;go_step;generalize w.alloc (.cells #[.int .i64 0,.int .i64 0,.int .i64 0,.slice none 0 0,.int .i64 0,.int .i64 0] 90)=W1 at HB0 HR0 HPA ⊢;obtain ⟨gr,hgr⟩:∃g,w.heap.size=g:=⟨_,rfl⟩;rw [hgr] at HB0 HR0;simp only [hgr];have HG:=Za hgr;clear hgr;go_wp2_with (go_at_call 74;with_reducible refine HPA.out.mono ?_;rintro en W2 ⟨gp,rfl,hgp,hbp,hb2⟩;have HBP:=Za hbp;have HGP:=Za hgp;have HB2:=Za hb2;clear hgp hbp hb2);go_step3;go_wp2_with fail;have HGR:=Za HR0.out.lt;go_loopw [19] (fun t19 W=>∃j:Nat,t19=.int .i64 (j:Int)∧j≤N∧Hid (∀i,i<j→Zaw l i=none)∧Below gr w W∧Blk W gr 90 #[.int .i64 0,.int .i64 0,.int .i64 0,.slice none 0 0,.int .i64 0,.int .i64 0]∧Blk W gp 3 (Zm (Zcx l)).toArray) (fun t19 _=>N - (intOf t19).toNat)
   case atStart=>exact ⟨0,rfl,Nat.zero_le _,Za (fun i hi=>absurd hi (Nat.not_lt_zero _)),HB0.out.trans (HB2.out.mono (by have:=HB0.out.size;have:=HG.out;omega)),HR0.out.below HB2.out HR0.out.lt,HBP.out⟩
   case round =>
    obtain ⟨j,rfl,hj,HF,hb,hr,hp⟩:=hrel;have HB:=Za hb;have HR:=Za hr;have HP:=Za hp;have hq:=IntWalk.i64_in ((j:Int)+1) (by omega);clear hb hr hp
    by_cases hjn:j<N
    · have hjI:(j:Int)<(N:Int):=by omega
      have hj0:(0:Int)≤(j:Int):=by omega
      have HJN:=Za hjn;have hlk:=HOK.out j (by have:=HN.out;omega);have hx:=Z5 (show j<l.length by have:=HN.out;omega);have hbw:Below w.heap.size w wr:=by rw [HG.out];exact HB.out
      have HROW:=Za (HRO.out.below hbw);obtain ⟨ad9,e9,hab,q0,q1,q2,q3,q4,q5⟩:=Zq HROW.out.s hx;injection e9 with e9;subst e9;have HLK:=Za hlk;obtain ⟨X,hX⟩:∃X,Zaw l j=X:=⟨_,rfl⟩;have HX:=Za hX;have HXR:=Za hx;have HFST:=Za (fun (f:Fd) (h:X=some f)=>show V=some f by rw [←HV.out];unfold Z6;rw [HN.out];exact Zb7 HJN.out (fun i hi=>HF.out i hi) (by rw [HX.out];exact h));have HNXT:=Za (fun (h:X=none)=>show ∀i,i<j+1→Zaw l i=none from fun i hi=>by rcases Nat.lt_or_ge i j with h1 | h1;exact HF.out i h1;rw [show i=j by omega,HX.out];exact h);have HEN:=Za (fun (W:World) (hb:Below wr.heap.size wr W)=>Zjy W (some ad) c l j (endL l j) (HROW.out.s.below hb) HSM.out HLK.out.e (by have:=HN.out;have:=HJN.out;omega));rw [HN.out] at HEN;clear hlk hX hbw hjn hx
      by_cases hk:16<(rowL l j).k
      · have hkI:(16:Int)<(rowL l j).k:=hk;have hex:=Znt wr ad c l j (rowL l j) (spL l j) (hsL l (spL l j)) HROW.out HSM.out HL.out HXR.out (HLK.out.x hk);rw [HN.out] at hex;have HX2:=Za (show X=(Za5 (rowL l j).k ((spL l j).map (sub l)) (hsL l (spL l j))).map (fun r=>⟨r.1,j,endL l j,r.2,1,1⟩) by rw [←HX.out];unfold Zaw;rw [if_pos hk]);have HEX:=Za hex;clear hex hk
        cases hev:Za5 (rowL l j).k ((spL l j).map (sub l)) (hsL l (spL l j)) with
        | none =>
         rw [hev] at HEX HX2;go_wp2_with (go_at_call 75;with_reducible refine HEX.out.mono ?_;rintro en W3 ⟨hr3,hb3⟩;simp only [ZbJ] at hr3;subst hr3;have HB3:=Za hb3;clear hb3);go_roundw
         case rel=>exact ⟨j+1,by go_num,by have:=HJN.out;omega,Za (HNXT.out HX2.out),HB.out.trans (HB3.out.mono (by have:=HB.out.size;have:=HG.out;omega)),HR.out.below HB3.out HR.out.lt,HP.out.below HB3.out HP.out.lt⟩
         case measure =>
          simp only [intOf];have:=HJN.out;omega
        | some r9 =>
         obtain ⟨n9,o9⟩:=r9;rw [hev] at HEX HX2;have HE:=Za (HFST.out _ HX2.out);go_upto_region 10 with (go_at_call 75;with_reducible refine HEX.out.mono ?_;rintro en W3 ⟨hr3,hb3⟩;simp only [ZbJ] at hr3;obtain ⟨v3,e3,hr4⟩:=hr3;subst e3;obtain ⟨oa3,nn3,cc3,e4⟩:=Zdm hr4;subst e4;have HRN:=Za hr4;have HB3:=Za hb3;clear hr4 hb3);have hen:=HEN.out W3 HB3.out;have HEN3:=Za hen;clear hen;have HB4:=Za (HB.out.trans (HB3.out.mono (by have:=HB.out.size;have:=HG.out;omega)));have HR4:=Za (HR.out.below HB3.out HR.out.lt);obtain ⟨r0,r1,r2,r3,r4,r5,hgrl⟩:=Zk HR4.out;have zr0:=HR4.out.frozen 0;have zr1:=HR4.out.frozen 1;have zr2:=HR4.out.frozen 2;have zr3:=HR4.out.frozen 3;have zr4:=HR4.out.frozen 4;have zr5:=HR4.out.frozen 5;go_wp2_with (go_at_call 76;with_reducible refine HEN3.out.mono ?_;rintro en w9 ⟨rfl,mm,rfl⟩);have hb4:=Zc HB4.out mm
         try rw [Exit.noGoto_ret]
         refine bodyPost_ret (v:=.tuple #[.agg #[.int .i64 (n9:Int),.int .i64 (j:Int),.int .i64 (endL l j:Int),.slice oa3 nn3 cc3,.int .i64 1,.int .i64 1],.bool true]) ?_ rfl ?_
         · simp only [results,HRES.out];go_simp
         have hb9:Below gr w (((((((W3.drewN mm).setCell ⟨gr,0,none⟩ (.int .i64 (n9:Int))).setCell ⟨gr,1,none⟩ (.int .i64 (j:Int))).setCell ⟨gr,2,none⟩ (.int .i64 (endL l j:Int))).setCell ⟨gr,3,none⟩ (.slice oa3 nn3 cc3)).setCell ⟨gr,4,none⟩ (.int .i64 1)).setCell ⟨gr,5,none⟩ (.int .i64 1)):=Zf (Zf (Zf (Zf (Zf (Zf hb4 (by exact lr_)) (by exact lr_)) (by exact lr_)) (by exact lr_)) (by exact lr_)) (by exact lr_);exact ⟨by rw [HE.out];exact ⟨_,rfl,_,rfl,Zdy (ZjR HRN.out mm) (HR4.out.drewN mm) ZcJ⟩,by rw [HG.out];exact hb9⟩
      by_cases hz:j=0
      · have hkI:¬(16:Int)<(rowL l j).k:=hk;have hj1:¬(0:Int)<(j:Int):=by omega
        have hj2:((j:Int) == 0)=true:=by simp [hz]
        have hinb:ZbT l j=false:=by simp [ZbT,hz]
        have hdo:=ZiN wr ad c l j (endL l j) (rowL l j) (ZbT l j) (spL l j) (hsL l (spL l j)) HROW.out HSM.out HL.out HXR.out HLK.out.k HLK.out.e (HLK.out.d hk);rw [HN.out] at hdo;have HX2:=Za (show X=(match Zaj l j (endL l j) (rowL l j) ((spL l j).map (sub l)) (hsL l (spL l j)) (ZbT l j) with | some f=>some f | none=>if j=0∧(rowL l 0).n=0 then some ⟨19,0,1,none,0,0⟩ else none) by rw [←HX.out];unfold Zaw;rw [if_neg hk]);obtain ⟨DV,hDV⟩:∃D,Zaj l j (endL l j) (rowL l j) ((spL l j).map (sub l)) (hsL l (spL l j)) (ZbT l j)=D:=⟨_,rfl⟩;rw [hDV] at hdo HX2;rw [hinb] at hdo;have HDO:=Za hdo;have HZ:=Za hz;clear hdo hDV hk hz hinb
        cases DV with
        | some f =>
         have HE:=Za (HFST.out f (by rw [HX2.out]));go_upto_region 12 with (go_at_call 77;with_reducible refine HDO.out.mono ?_;rintro en W3 ⟨hr3,hb3⟩;simp only [Zep,FdV] at hr3;obtain ⟨v3,e3,u3,e4,hr4⟩:=hr3;subst e3;subst e4;obtain ⟨oa3,nn3,cc3,e4⟩:=Zdm hr4;subst e4;have HRN:=Za hr4;have HB3:=Za hb3;clear hr4 hb3);have HB4:=Za (HB.out.trans ((HB3.out.alloc HB3.out.size (.cells #[.int .i64 (f.what:Int),.int .i64 (f.frm:Int),.int .i64 (f.to_:Int),.slice oa3 nn3 cc3,.int .i64 f.parts,.int .i64 f.gone] 90)).mono (by have:=HB.out.size;have:=HG.out;omega)));have HR4:=Za ((HR.out.below HB3.out HR.out.lt).alloc (.cells #[.int .i64 (f.what:Int),.int .i64 (f.frm:Int),.int .i64 (f.to_:Int),.slice oa3 nn3 cc3,.int .i64 f.parts,.int .i64 f.gone] 90));have HD4:=Za (Blk.new W3 90 #[.int .i64 (f.what:Int),.int .i64 (f.frm:Int),.int .i64 (f.to_:Int),.slice oa3 nn3 cc3,.int .i64 f.parts,.int .i64 f.gone]);have HP4:=Za ((HP.out.below HB3.out HP.out.lt).alloc (.cells #[.int .i64 (f.what:Int),.int .i64 (f.frm:Int),.int .i64 (f.to_:Int),.slice oa3 nn3 cc3,.int .i64 f.parts,.int .i64 f.gone] 90));have HRN4:=Za (HRN.out.below ((Below.refl _ W3).alloc lr_ (.cells #[.int .i64 (f.what:Int),.int .i64 (f.frm:Int),.int .i64 (f.to_:Int),.slice oa3 nn3 cc3,.int .i64 f.parts,.int .i64 f.gone] 90)));generalize W3.alloc (.cells #[.int .i64 (f.what:Int),.int .i64 (f.frm:Int),.int .i64 (f.to_:Int),.slice oa3 nn3 cc3,.int .i64 f.parts,.int .i64 f.gone] 90)=W4 at HB4 HR4 HD4 HP4 HRN4 ⊢;obtain ⟨gd,hgd⟩:∃g,W3.heap.size=g:=⟨_,rfl⟩;rw [hgd] at HD4;simp only [hgd];have hgd2:gr<gd:=by have:=HB3.out.size;have:=HR.out.lt;omega
         have hne1:gr≠gd:=by omega
         have hne2:gd≠gr:=by omega
         clear hgd;obtain ⟨d0,d1,d2,d3,d4,d5,_⟩:=Zk HD4.out;obtain ⟨r0,r1,r2,r3,r4,r5,hgrl⟩:=Zk HR4.out;have zr0:=HR4.out.frozen 0;have zr1:=HR4.out.frozen 1;have zr2:=HR4.out.frozen 2;have zr3:=HR4.out.frozen 3;have zr4:=HR4.out.frozen 4;have zr5:=HR4.out.frozen 5;go_wp2_with fail
         try rw [Exit.noGoto_ret]
         refine bodyPost_ret (v:=.tuple #[.agg #[.int .i64 (f.what:Int),.int .i64 (f.frm:Int),.int .i64 (f.to_:Int),.slice oa3 nn3 cc3,.int .i64 f.parts,.int .i64 f.gone],.bool true]) ?_ rfl ?_
         · simp only [results,HRES.out];go_simp
         have hb9:Below gr w ((((((W4.setCell ⟨gr,0,none⟩ (.int .i64 (f.what:Int))).setCell ⟨gr,1,none⟩ (.int .i64 (f.frm:Int))).setCell ⟨gr,2,none⟩ (.int .i64 (f.to_:Int))).setCell ⟨gr,3,none⟩ (.slice oa3 nn3 cc3)).setCell ⟨gr,4,none⟩ (.int .i64 f.parts)).setCell ⟨gr,5,none⟩ (.int .i64 f.gone)):=Zf (Zf (Zf (Zf (Zf (Zf HB4.out (by exact lr_)) (by exact lr_)) (by exact lr_)) (by exact lr_)) (by exact lr_)) (by exact lr_);exact ⟨by rw [HE.out];exact ⟨_,rfl,_,rfl,Zdy HRN4.out HR4.out ZcJ⟩,by rw [HG.out];exact hb9⟩
        | none =>
         go_upto_region 12 with (go_at_call 77;with_reducible refine HDO.out.mono ?_;rintro en W3 ⟨hr3,hb3⟩;simp only [Zep] at hr3;obtain ⟨m0,m1,m2,oa3,nn3,cc3,m4,m5,e3⟩:=hr3;subst e3;have HB3:=Za hb3;clear hb3);have HB4:=Za (HB.out.trans ((HB3.out.alloc HB3.out.size (.cells #[.int .i64 m0,.int .i64 m1,.int .i64 m2,.slice oa3 nn3 cc3,.int .i64 m4,.int .i64 m5] 90)).mono (by have:=HB.out.size;have:=HG.out;omega)));have HR4:=Za ((HR.out.below HB3.out HR.out.lt).alloc (.cells #[.int .i64 m0,.int .i64 m1,.int .i64 m2,.slice oa3 nn3 cc3,.int .i64 m4,.int .i64 m5] 90));have HD4:=Za (Blk.new W3 90 #[.int .i64 m0,.int .i64 m1,.int .i64 m2,.slice oa3 nn3 cc3,.int .i64 m4,.int .i64 m5]);have HP4:=Za ((HP.out.below HB3.out HP.out.lt).alloc (.cells #[.int .i64 m0,.int .i64 m1,.int .i64 m2,.slice oa3 nn3 cc3,.int .i64 m4,.int .i64 m5] 90));have HRO4:=Za ((HROW.out.below HB3.out).below ((Below.refl _ W3).alloc lr_ (.cells #[.int .i64 m0,.int .i64 m1,.int .i64 m2,.slice oa3 nn3 cc3,.int .i64 m4,.int .i64 m5] 90)));generalize W3.alloc (.cells #[.int .i64 m0,.int .i64 m1,.int .i64 m2,.slice oa3 nn3 cc3,.int .i64 m4,.int .i64 m5] 90)=W4 at HB4 HR4 HD4 HP4 HRO4 ⊢;obtain ⟨ad9,e9,_,_,_,_,_,_,w5⟩:=Zq HRO4.out.s (Z5 (show 0<l.length by have:=HN.out;have:=HJN.out;omega));injection e9 with e9;subst e9;rw [show ad.add (0*6)=ad by simp [Addr.add]] at w5;have hN0:(0:Int)<(N:Int):=by have:=HJN.out;omega
         by_cases hkz:(rowL l 0).n=0
         · have hkb2:((rowL l 0).n == 0)=true:=by simp [hkz]
           have HE:=Za (HFST.out ⟨19,0,1,none,0,0⟩ (by rw [HX2.out];simp [HZ.out,hkz]));clear hkz;obtain ⟨r0,r1,r2,r3,r4,r5,hgrl⟩:=Zk HR4.out;have zr0:=HR4.out.frozen 0;have zr1:=HR4.out.frozen 1;have zr2:=HR4.out.frozen 2;have zr3:=HR4.out.frozen 3;have zr4:=HR4.out.frozen 4;have zr5:=HR4.out.frozen 5;go_wp2_with fail
           try rw [Exit.noGoto_ret]
           refine bodyPost_ret (v:=.tuple #[.agg #[.int .i64 19,.int .i64 0,.int .i64 1,.slice none 0 0,.int .i64 0,.int .i64 0],.bool true]) ?_ rfl ?_
           · simp only [results,HRES.out];go_simp
           have hb9:Below gr w ((((((W4.setCell ⟨gr,0,none⟩ (.int .i64 19)).setCell ⟨gr,1,none⟩ (.int .i64 0)).setCell ⟨gr,2,none⟩ (.int .i64 1)).setCell ⟨gr,3,none⟩ (.slice none 0 0)).setCell ⟨gr,4,none⟩ (.int .i64 0)).setCell ⟨gr,5,none⟩ (.int .i64 0)):=Zf (Zf (Zf (Zf (Zf (Zf HB4.out (by exact lr_)) (by exact lr_)) (by exact lr_)) (by exact lr_)) (by exact lr_)) (by exact lr_);exact ⟨by rw [HE.out];exact ⟨_,rfl,_,rfl,rfl⟩,by rw [HG.out];exact hb9⟩
         · have hkb2:((rowL l 0).n == 0)=false:=by simp [hkz]
           have HXN:=Za (show X=none by rw [HX2.out];simp [hkz]);clear hkz;go_wp2_with fail;go_roundw
           case rel=>exact ⟨j+1,by go_num,by have:=HJN.out;omega,Za (HNXT.out HXN.out),HB4.out,HR4.out,HP4.out⟩
           case measure =>
            simp only [intOf];have:=HJN.out;omega
      · have hkI:¬(16:Int)<(rowL l j).k:=hk;have hj1:(0:Int)<(j:Int):=by omega
        have hj2:((j:Int) == 0)=false:=by simp [hz]
        obtain ⟨p,hpv,hpl⟩:=HLK.out.up (by omega);have cp:=Zae HP.out hpv;obtain ⟨ad9,e9,_,p0,_⟩:=Zq HROW.out.s (Z5 hpl);injection e9 with e9;subst e9;obtain ⟨kb,hkb⟩:∃b,((rowL l p).k == 1)=b:=⟨_,rfl⟩;have hinb:ZbT l j=kb:=by rw [←hkb];simp [ZbT,hpv];rw [show (decide (0<j))=true by simp;omega];simp [Int.toNat_natCast];rfl
        rw [HN.out] at hpl;have hp1:(p:Int)<(N:Int):=by omega
        have hp2:(0:Int)≤(p:Int):=by omega
        clear hpv hpl;have hdo:=ZiN wr ad c l j (endL l j) (rowL l j) (ZbT l j) (spL l j) (hsL l (spL l j)) HROW.out HSM.out HL.out HXR.out HLK.out.k HLK.out.e (HLK.out.d hk);rw [HN.out] at hdo;have HX2:=Za (show X=(match Zaj l j (endL l j) (rowL l j) ((spL l j).map (sub l)) (hsL l (spL l j)) (ZbT l j) with | some f=>some f | none=>if j=0∧(rowL l 0).n=0 then some ⟨19,0,1,none,0,0⟩ else none) by rw [←HX.out];unfold Zaw;rw [if_neg hk]);obtain ⟨DV,hDV⟩:∃D,Zaj l j (endL l j) (rowL l j) ((spL l j).map (sub l)) (hsL l (spL l j)) (ZbT l j)=D:=⟨_,rfl⟩;rw [hDV] at hdo HX2;rw [hinb] at hdo;have HDO:=Za hdo;have HZ:=Za hz;clear hdo hDV hk hz hinb
        cases DV with
        | some f =>
         have HE:=Za (HFST.out f (by rw [HX2.out]));go_upto_region 12 with (go_at_call 77;with_reducible refine HDO.out.mono ?_;rintro en W3 ⟨hr3,hb3⟩;simp only [Zep,FdV] at hr3;obtain ⟨v3,e3,u3,e4,hr4⟩:=hr3;subst e3;subst e4;obtain ⟨oa3,nn3,cc3,e4⟩:=Zdm hr4;subst e4;have HRN:=Za hr4;have HB3:=Za hb3;clear hr4 hb3);have HB4:=Za (HB.out.trans ((HB3.out.alloc HB3.out.size (.cells #[.int .i64 (f.what:Int),.int .i64 (f.frm:Int),.int .i64 (f.to_:Int),.slice oa3 nn3 cc3,.int .i64 f.parts,.int .i64 f.gone] 90)).mono (by have:=HB.out.size;have:=HG.out;omega)));have HR4:=Za ((HR.out.below HB3.out HR.out.lt).alloc (.cells #[.int .i64 (f.what:Int),.int .i64 (f.frm:Int),.int .i64 (f.to_:Int),.slice oa3 nn3 cc3,.int .i64 f.parts,.int .i64 f.gone] 90));have HD4:=Za (Blk.new W3 90 #[.int .i64 (f.what:Int),.int .i64 (f.frm:Int),.int .i64 (f.to_:Int),.slice oa3 nn3 cc3,.int .i64 f.parts,.int .i64 f.gone]);have HP4:=Za ((HP.out.below HB3.out HP.out.lt).alloc (.cells #[.int .i64 (f.what:Int),.int .i64 (f.frm:Int),.int .i64 (f.to_:Int),.slice oa3 nn3 cc3,.int .i64 f.parts,.int .i64 f.gone] 90));have HRN4:=Za (HRN.out.below ((Below.refl _ W3).alloc lr_ (.cells #[.int .i64 (f.what:Int),.int .i64 (f.frm:Int),.int .i64 (f.to_:Int),.slice oa3 nn3 cc3,.int .i64 f.parts,.int .i64 f.gone] 90)));generalize W3.alloc (.cells #[.int .i64 (f.what:Int),.int .i64 (f.frm:Int),.int .i64 (f.to_:Int),.slice oa3 nn3 cc3,.int .i64 f.parts,.int .i64 f.gone] 90)=W4 at HB4 HR4 HD4 HP4 HRN4 ⊢;obtain ⟨gd,hgd⟩:∃g,W3.heap.size=g:=⟨_,rfl⟩;rw [hgd] at HD4;simp only [hgd];have hgd2:gr<gd:=by have:=HB3.out.size;have:=HR.out.lt;omega
         have hne1:gr≠gd:=by omega
         have hne2:gd≠gr:=by omega
         clear hgd;obtain ⟨d0,d1,d2,d3,d4,d5,_⟩:=Zk HD4.out;obtain ⟨r0,r1,r2,r3,r4,r5,hgrl⟩:=Zk HR4.out;have zr0:=HR4.out.frozen 0;have zr1:=HR4.out.frozen 1;have zr2:=HR4.out.frozen 2;have zr3:=HR4.out.frozen 3;have zr4:=HR4.out.frozen 4;have zr5:=HR4.out.frozen 5;go_wp2_with fail
         try rw [Exit.noGoto_ret]
         refine bodyPost_ret (v:=.tuple #[.agg #[.int .i64 (f.what:Int),.int .i64 (f.frm:Int),.int .i64 (f.to_:Int),.slice oa3 nn3 cc3,.int .i64 f.parts,.int .i64 f.gone],.bool true]) ?_ rfl ?_
         · simp only [results,HRES.out];go_simp
         have hb9:Below gr w ((((((W4.setCell ⟨gr,0,none⟩ (.int .i64 (f.what:Int))).setCell ⟨gr,1,none⟩ (.int .i64 (f.frm:Int))).setCell ⟨gr,2,none⟩ (.int .i64 (f.to_:Int))).setCell ⟨gr,3,none⟩ (.slice oa3 nn3 cc3)).setCell ⟨gr,4,none⟩ (.int .i64 f.parts)).setCell ⟨gr,5,none⟩ (.int .i64 f.gone)):=Zf (Zf (Zf (Zf (Zf (Zf HB4.out (by exact lr_)) (by exact lr_)) (by exact lr_)) (by exact lr_)) (by exact lr_)) (by exact lr_);exact ⟨by rw [HE.out];exact ⟨_,rfl,_,rfl,Zdy HRN4.out HR4.out ZcJ⟩,by rw [HG.out];exact hb9⟩
        | none =>
         go_upto_region 12 with (go_at_call 77;with_reducible refine HDO.out.mono ?_;rintro en W3 ⟨hr3,hb3⟩;simp only [Zep] at hr3;obtain ⟨m0,m1,m2,oa3,nn3,cc3,m4,m5,e3⟩:=hr3;subst e3;have HB3:=Za hb3;clear hb3);have HB4:=Za (HB.out.trans ((HB3.out.alloc HB3.out.size (.cells #[.int .i64 m0,.int .i64 m1,.int .i64 m2,.slice oa3 nn3 cc3,.int .i64 m4,.int .i64 m5] 90)).mono (by have:=HB.out.size;have:=HG.out;omega)));have HR4:=Za ((HR.out.below HB3.out HR.out.lt).alloc (.cells #[.int .i64 m0,.int .i64 m1,.int .i64 m2,.slice oa3 nn3 cc3,.int .i64 m4,.int .i64 m5] 90));have HD4:=Za (Blk.new W3 90 #[.int .i64 m0,.int .i64 m1,.int .i64 m2,.slice oa3 nn3 cc3,.int .i64 m4,.int .i64 m5]);have HP4:=Za ((HP.out.below HB3.out HP.out.lt).alloc (.cells #[.int .i64 m0,.int .i64 m1,.int .i64 m2,.slice oa3 nn3 cc3,.int .i64 m4,.int .i64 m5] 90));have HRO4:=Za ((HROW.out.below HB3.out).below ((Below.refl _ W3).alloc lr_ (.cells #[.int .i64 m0,.int .i64 m1,.int .i64 m2,.slice oa3 nn3 cc3,.int .i64 m4,.int .i64 m5] 90)));generalize W3.alloc (.cells #[.int .i64 m0,.int .i64 m1,.int .i64 m2,.slice oa3 nn3 cc3,.int .i64 m4,.int .i64 m5] 90)=W4 at HB4 HR4 HD4 HP4 HRO4 ⊢;have HXN:=Za (show X=none by rw [HX2.out];simp [HZ.out]);go_wp2_with fail;go_roundw
         case rel=>exact ⟨j+1,by go_num,by have:=HJN.out;omega,Za (HNXT.out HXN.out),HB4.out,HR4.out,HP4.out⟩
         case measure =>
          simp only [intOf];have:=HJN.out;omega
    · have hjI:¬(j:Int)<(N:Int):=by omega
      have HE:=Za (show V=none by rw [←HV.out];unfold Z6;rw [HN.out];exact ZdG (fun i hi=>HF.out i (by omega)));clear hjn;obtain ⟨r0,r1,r2,r3,r4,r5,hgrl⟩:=Zk HR.out;have zr0:=HR.out.frozen 0;have zr1:=HR.out.frozen 1;have zr2:=HR.out.frozen 2;have zr3:=HR.out.frozen 3;have zr4:=HR.out.frozen 4;have zr5:=HR.out.frozen 5;go_wp2_with fail
      try rw [Exit.noGoto_ret]
      refine bodyPost_ret (v:=.tuple #[.agg #[.int .i64 0,.int .i64 0,.int .i64 0,.slice none 0 0,.int .i64 0,.int .i64 0],.bool false]) ?_ rfl ?_
      · simp only [results,HRES.out];go_simp
      have hb9:Below gr w ((((((wr.setCell ⟨gr,0,none⟩ (.int .i64 0)).setCell ⟨gr,1,none⟩ (.int .i64 0)).setCell ⟨gr,2,none⟩ (.int .i64 0)).setCell ⟨gr,3,none⟩ (.slice none 0 0)).setCell ⟨gr,4,none⟩ (.int .i64 0)).setCell ⟨gr,5,none⟩ (.int .i64 0)):=Zf (Zf (Zf (Zf (Zf (Zf HB.out (by exact lr_)) (by exact lr_)) (by exact lr_)) (by exact lr_)) (by exact lr_)) (by exact lr_);exact ⟨by rw [HE.out];exact ⟨_,_,_,_,_,_,_,_,rfl⟩,by rw [HG.out];exact hb9⟩
structure TreeL (l:List Ac):Prop where
 n:∀(j:Nat) (x:Ac),l[j]? = some x→0≤x.n
 e:∀j,j<l.length→∃e,ZV l j 1=some e∧j<e∧e≤l.length∧∀b:Nat,ZV l j (1+(b:Int))=ZV l e b
 r:0<l.length→ZV l 0 1=some l.length
theorem ZeP {P:Pl} {l:List Ac} (h:Zy P l=true):TreeL l:=by
 by_cases h0:l=[]
 · subst h0;exact ⟨fun j x hx=>by simp at hx,fun j hj=>by simp at hj,fun h=>by simp at h⟩
 · have hw:=ZcG h h0;have hin:∀j,j<l.length→∃f' what' e',Wf P l f' what' j e'∧e'≤l.length:=fun j hj=>Zdv _ _ _ _ hw j (Nat.zero_le _) hj
   refine ⟨fun j x hx=>?_,fun j hj=>?_,fun _=>ZbX hw⟩
   · obtain ⟨f',what',e',h1,_⟩:=hin j (gs_ hx).1
     cases f' with
     | zero=>exact h1.elim
     | succ f' =>
      obtain ⟨y,sp,hy,_,_,h0,_⟩:=h1;rw [hx] at hy;injection hy with hy;subst hy;exact h0
   · obtain ⟨f',what',e',h1,_⟩:=hin j hj;have h2:=Zc6 _ _ _ _ h1;exact ⟨e',ZbX h1,h2.1,h2.2,Zhe _ _ _ _ h1⟩
section
variable {l:List Ac}
theorem Zcq {i e:Nat} (h:ZV l i 1=some e):endL l i=e:=by unfold endL;rw [h];rfl
def Zgt (l:List Ac) (lk:List Int):Nat→List Nat→Prop
 | a,[]=>a=l.length
 | a,i::r=>∃e,ZV l a (lk[i]?.getD 0)=some e∧ZV l i 1=some e∧0≤lk[i]?.getD 0∧i<a∧(∀q ∈ r,q<i)∧Zgt l lk e r
theorem Zhj {lk:List Int} {a:Nat}:∀(st:List Nat),Zgt l lk a st→Zgt l lk a (ZbB lk st)∧∀q ∈ st,q ∉ ZbB lk st→endL l q=a
 | [],h=>⟨h,fun q hq=>by cases hq⟩
 | i::r,h=>by
  obtain ⟨e,h1,h2,h3,h4,h5,h6⟩:=h;unfold ZbB
  by_cases hz:lk[i]?.getD 0=0
  · rw [if_pos hz];rw [hz,Zay (by omega)] at h1;injection h1 with h1;subst h1;obtain ⟨a1,a2⟩:=Zhj r h6;refine ⟨a1,fun q hq hn=>?_⟩;rcases List.mem_cons.1 hq with rfl | hq
    · exact Zcq h2
    · exact a2 q hq hn
  · rw [if_neg hz];exact ⟨⟨e,h1,h2,h3,h4,h5,h6⟩,fun q hq hn=>absurd hq hn⟩
theorem ZfE {lk lk':List Int}:∀(st:List Nat) (a:Nat),(∀q ∈ st,lk'[q]?.getD 0=lk[q]?.getD 0)→Zgt l lk a st→Zgt l lk' a st
 | [],a,_,h=>h
 | i::r,a,hq,⟨e,h1,h2,h3,h4,h5,h6⟩=>by
  have e1:=hq i (by simp);exact ⟨e,by rw [e1];exact h1,h2,by rw [e1];exact h3,h4,h5,ZfE r e (fun q hr=>hq q (List.mem_cons_of_mem _ hr)) h6⟩
structure WaitAt (l:List Ac) (a:Nat) (s:PS):Prop where
 w:Zgt l s.lk a s.st
 o:∀j,j<a→j ∉ s.st→endL l j≤a
theorem ZgC (hT:TreeL l) (hs:Z7 l) {a:Nat} {s:PS} (ha:a<l.length) (hok:PSok l a s) (h:WaitAt l a s) :
 (∃i,(ZaN s a ((l[a]?.map Ac.n).getD 0)).ov=s.ov.set a (i:Nat)∧i<a∧a<endL l i∧∀j,i<j→j<a→endL l j≤a)∧WaitAt l (a+1) (ZaN s a ((l[a]?.map Ac.n).getD 0)):=by
 obtain ⟨hw,hp⟩:=Zhj s.st h.w;obtain ⟨x,hx⟩:∃x,l[a]? = some x:=⟨_,ge_ ha⟩;obtain ⟨e1,q1,q2,q3,q4⟩:=hT.e a ha;have hn:=hT.n a x hx;rw [hx];simp only [Option.map_some,Option.getD_some]
 cases hst:ZbB s.lk s.st with
 | nil =>
  rw [hst] at hw;have:a=l.length:=hw;omega
 | cons i r =>
  rw [hst] at hw;have hpos:=Zdz _ hst;obtain ⟨e,h1,h2,h3,h4,h5,h6⟩:=hw;rw [Zcy hst];have hge:=ZcO l _ a (s.lk[i]?.getD 0) e rfl h1 (by omega);have hae:a<e:=hge.2.2 (by omega)
  have hdec:∀j,j<a→j ∉ i::r→endL l j≤a:=fun j hj hjn=>by
   by_cases hjs:j ∈ s.st
   · rw [hp j hjs (by rw [hst];exact hjn)];exact lr_
   · exact h.o j hj hjs
  have hmem:∀q ∈ i::r,q<a:=fun q hq=>by
   rcases List.mem_cons.1 hq with rfl | hq
   · exact h4
   · have:=h5 q hq;omega
  refine ⟨⟨i,rfl,h4,by rw [Zcq h2];exact hae,fun j j1 j2=>hdec j j2 (fun hm=>?_)⟩,?_,fun j hj hjn=>?_⟩
  · rcases List.mem_cons.1 hm with rfl | hm
    · omega
    · have:=h5 j hm;omega
  · have hil:i<s.lk.length:=by rw [hok.lk];omega
    have hla:((s.lk.set i (s.lk[i]?.getD 0 - 1)).set a x.n)[a]?.getD 0=x.n:=by
     rw [List.getElem?_set_self (by simp [hok.lk];exact ha)];rfl
    have hli:((s.lk.set i (s.lk[i]?.getD 0 - 1)).set a x.n)[i]?.getD 0=s.lk[i]?.getD 0 - 1:=by
     rw [List.getElem?_set_ne (by omega),List.getElem?_set_self hil];rfl
    have hlr:∀q ∈ r,((s.lk.set i (s.lk[i]?.getD 0 - 1)).set a x.n)[q]?.getD 0=s.lk[q]?.getD 0:=fun q hq=>by
     have:=h5 q hq;rw [List.getElem?_set_ne (by omega),List.getElem?_set_ne (by omega)]
    refine ⟨e1,?_,q1,by rw [hla];exact hn,by omega,hmem,e,?_,h2,by rw [hli];omega,by omega,h5,ZfE r e hlr h6⟩
    · rw [hla];rw [Zar (by decide) hx,show (1:Int)+(x.n - 1)=x.n by omega] at q1;exact q1
    · rw [hli];have hb:=q4 (s.lk[i]?.getD 0 - 1).toNat;rw [show (1:Int)+((s.lk[i]?.getD 0 - 1).toNat:Int)=s.lk[i]?.getD 0 by omega,show (((s.lk[i]?.getD 0 - 1).toNat:Nat):Int)=s.lk[i]?.getD 0 - 1 by omega,h1] at hb;exact hb.symm
  · simp only [List.mem_cons,not_or] at hjn;have:=hdec j (by omega) (by simp only [List.mem_cons,not_or];exact hjn.2);omega
theorem Zhk (hT:TreeL l) (hs:Z7 l) (h0:0<l.length):∀a,a+1≤l.length→WaitAt l (a+1) (ZaT l (a+1))
 | 0,_=>by
  obtain ⟨x,hx⟩:∃x,l[0]? = some x:=⟨_,ge_ h0⟩;have hr:=hT.r h0
  have e:ZaT l 1=ZaN (ZaT l 0) 0 x.n:=by
   show ZaN (ZaT l 0) 0 ((l[0]?.map Ac.n).getD 0)=_;rw [hx];rfl
  rw [e,ZcS (by rfl)]
  have hl0:((ZaT l 0).lk.set 0 x.n)[0]?.getD 0=x.n:=by
   rw [List.getElem?_set_self (by simp [ZaT];exact h0)];rfl
  refine ⟨⟨l.length,?_,hr,by rw [hl0];exact hT.n 0 x hx,by decide,fun q hq=>(by cases hq),rfl⟩,fun j hj hjn=>absurd (show j ∈ [0] from by simp;omega) hjn⟩;rw [hl0];rw [Zar (by decide) hx,show (1:Int)+(x.n - 1)=x.n by omega] at hr;exact hr
 | a+1,ha=>(ZgC hT hs ha (Zdb hs (a+1)) (Zhk hT hs h0 a (by omega))).2
theorem Ziy (a:Nat):∀m,a+1≤m→(ZaT l m).ov[a]? = (ZaT l (a+1)).ov[a]?
 | 0,h=>by omega
 | m+1,h=>by
  rcases Nat.eq_or_lt_of_le h with h1 | h1
  · have:a=m:=by omega
    subst this;rfl
  · rw [←Ziy a m (by omega)];show (ZaN (ZaT l m) m ((l[m]?.map Ac.n).getD 0)).ov[a]? = _;unfold ZaN;split
    · exact List.getElem?_set_ne (by omega)
    · exact List.getElem?_set_ne (by omega)
theorem Zew (hT:TreeL l) (hs:Z7 l) {a:Nat} (h0:0<a) (ha:a<l.length):∃i:Nat,(Zcx l)[a]? = some (i:Int)∧i<a∧a<endL l i∧∀j,i<j→j<a→endL l j≤a:=by
 obtain ⟨b,rfl⟩:∃b,a=b+1:=⟨a - 1,by omega⟩;obtain ⟨⟨i,h1,h2,h3,h4⟩,_⟩:=ZgC hT hs ha (Zdb hs (b+1)) (Zhk hT hs (by omega) b (by omega));refine ⟨i,?_,h2,h3,h4⟩;unfold Zcx;rw [Ziy (b+1) l.length ha];show (ZaN (ZaT l (b+1)) (b+1) ((l[b+1]?.map Ac.n).getD 0)).ov[b+1]? = _;rw [h1,List.getElem?_set_self (by rw [(Zdb hs (b+1)).ov];exact ha)]
end
def Zbv (P:Pl) (x:Ac):Bool:=decide (x.n=0)&&Zu P x
def Zcg (P:Pl) (x y:Ac):Bool:=(Zbv P x&&Zbv P y)&&((decide (y.k=10)&&(ghV P.gh y.a == ghV P.gh x.a))||(decide (y.k=12)&&ghV P.gh x.a))
def Zcf (P:Pl) (x y z:Ac):Bool:=((Zbv P x&&Zbv P y)&&(decide (y.k=11)&&!ghV P.gh x.a))&&(Zbv P z&&(decide (z.k=12)||(decide (z.k=10)&&ghV P.gh z.a)))
inductive OkB (P:Pl) (R:Int→List Ac→Int→Prop):Nat→List Ac→Prop
 | nil:OkB P R 0 []
 | two {x y:Ac} {m:Nat} {l:List Ac}:x.k=9→Zcg P x y=true→OkB P R m l→OkB P R (m+2) (x::y::l)
 | three {x y z:Ac} {m:Nat} {l:List Ac}:x.k=9→Zcf P x y z=true→OkB P R m l→OkB P R (m+3) (x::y::z::l)
 | row {x:Ac} {m:Nat} {l1 l2:List Ac} {w:Int}:R 0 (x::l1) w→¬(9≤x.k∧x.k≤12)→OkB P R m l2→OkB P R (m+1) (x::(l1++l2))
inductive OkK (R:Int→List Ac→Int→Prop) (k:Int):List Int→Nat→Int→Int→List Ac→Int→Prop
 | nil {j:Nat} {kind wants:Int}:OkK R k [] j kind wants [] wants
 | cons {v:Int} {vs:List Int} {j:Nat} {kind wants n w:Int} {y:Ac} {l1 l2:List Ac}:R (if v=4∧j=1 then Zn kind else v) (y::l1) n →
  OkK R k vs (j+1) y.k (max wants (if j=1∧19≤k∧k≠37∧k≠38 then n+1 else n)) l2 w→OkK R k (v::vs) j kind wants (y::(l1++l2)) w
def Ok (P:Pl):Nat→Int→List Ac→Int→Prop
 | 0,_,_,_=>False
 | f+1,what,l,w=>∃x l1,l=x::l1∧ZE what x.k=true∧Zu P x=true ∧
  ((x.k=1∧0≤x.n∧OkB P (Ok P f) x.n.toNat l1∧w=0)∨(x.k≠1∧x.n=((kidsV x.k x.n).length:Int)∧∃w0,OkK (Ok P f) x.k (kidsV x.k x.n) 0 0 0 l1 w0∧w0≤256∧w=max w0 1))
section
variable {P:Pl}
theorem OkB.mono {R R':Int→List Ac→Int→Prop} (h:∀a b c,R a b c→R' a b c) {m:Nat} {l:List Ac} (hb:OkB P R m l):OkB P R' m l:=by
 induction hb with
 | nil=>exact .nil
 | two h1 h2 _ ih=>exact .two h1 h2 ih
 | three h1 h2 _ ih=>exact .three h1 h2 ih
 | row h1 h2 _ ih=>exact .row (h _ _ _ h1) h2 ih
theorem OkK.mono {R R':Int→List Ac→Int→Prop} (h:∀a b c,R a b c→R' a b c) {k:Int} {vs:List Int} {j:Nat} {kind wants w:Int} {l:List Ac} (hb:OkK R k vs j kind wants l w):OkK R' k vs j kind wants l w:=by
 induction hb with
 | nil=>exact .nil
 | cons h1 _ ih=>exact .cons (h _ _ _ h1) ih
theorem Ok.succ:∀(f:Nat) {what:Int} {l:List Ac} {w:Int},Ok P f what l w→Ok P (f+1) what l w
 | 0,_,_,_,h=>h.elim
 | f+1,what,l,w,⟨x,l1,e,h1,h2,h3⟩=>by
  refine ⟨x,l1,e,h1,h2,?_⟩;rcases h3 with ⟨a,b,c,d⟩ | ⟨a,b,w0,c,d⟩
  · exact .inl ⟨a,b,c.mono (fun _ _ _=>Ok.succ f),d⟩
  · exact .inr ⟨a,b,w0,c.mono (fun _ _ _=>Ok.succ f),d⟩
theorem Ok.le {f g:Nat} {what:Int} {l:List Ac} {w:Int} (h:Ok P f what l w) (hg:f≤g):Ok P g what l w:=by
 induction hg with
 | refl=>exact h
 | step _ ih=>exact ih.succ
theorem Zcb {l:List Ac} {i e:Nat} {x:Ac} (hx:l[i]? = some x) (h:i<e):(l.drop i).take (e - i)=x::(l.drop (i+1)).take (e - (i+1)):=by
 have hl:=(gs_ hx);obtain ⟨h1,h2⟩:=hl;rw [List.drop_eq_getElem_cons h1,h2,show e - i=(e - (i+1))+1 by omega,List.take_succ_cons]
theorem Zgq {l:List Ac} {i j e:Nat} (h1:i≤j) (h2:j≤e):(l.drop i).take (e - i)=(l.drop i).take (j - i)++(l.drop j).take (e - j):=by
 rw [show e - i=(j - i)+(e - j) by omega,List.take_add,List.drop_drop];congr 3;omega
theorem Ze2 {l:List Ac} {i:Nat} {x:Ac} (hx:l[i]? = some x) (h:handV P l i=2):∃y,l[i+1]? = some y∧Zcg P x y=true:=by
 unfold handV at h;simp only [hx] at h
 cases h1:l[i+1]? with
 | none=>simp [h1] at h
 | some y =>
  simp only [h1] at h;refine ⟨y,rfl,?_⟩;split at h
  · next hg =>
    split at h
    · next h2 =>
      unfold Zcg Zbv;rw [hg,h2];rfl
    · split at h
      · cases h
      · cases h4:l[i+2]? with
        | none=>simp [h4] at h
        | some z=>simp only [h4] at h;split at h <;> cases h
  · cases h
theorem ZdF {l:List Ac} {i:Nat} {x:Ac} (hx:l[i]? = some x) (h:handV P l i=3):∃y z,l[i+1]? = some y∧l[i+2]? = some z∧Zcf P x y z=true:=by
 unfold handV at h;simp only [hx] at h
 cases h1:l[i+1]? with
 | none=>simp [h1] at h
 | some y =>
  simp only [h1] at h;split at h
  · next hg =>
    split at h
    · cases h
    · split at h
      · cases h
      · next h3 =>
        cases h4:l[i+2]? with
        | none=>simp [h4] at h
        | some z =>
         simp only [h4] at h;split at h
         · next h5 =>
           refine ⟨y,z,rfl,rfl,?_⟩;unfold Zcf Zbv;rw [hg,h5];simp only [not_or,Decidable.not_not,Bool.not_eq_true] at h3;simp [h3.1,h3.2]
         · cases h
  · cases h
theorem Zh0 {R:Int→List Ac→Int→Prop} {l:List Ac} {row:Nat→Int→Option (Nat×Int)} (hr:∀i what e n,row i what=some (e,n)→i<e∧e≤l.length∧R what ((l.drop i).take (e - i)) n):∀(m i e:Nat),Zs P l row m i=some e→i≤l.length →
 i≤e∧e≤l.length∧OkB P R m ((l.drop i).take (e - i)):=by
 intro m
 induction m using Nat.strongRecOn with
 | ind m ih =>
  intro i e h hi;rcases Nat.eq_zero_or_pos m with rfl | hm
  · rw [Zcu] at h;injection h with h;subst h;simp only [Nat.sub_self,List.take_zero];exact ⟨lr_,hi,.nil⟩
  · cases hx:l[i]? with
    | none=>rw [ZeH hm hx] at h;cases h
    | some x =>
     have hil:=(gs_ hx).1
     by_cases h9:x.k=9
     · by_cases hh:handV P l i=0∨m<handV P l i
       · rw [Zds hm hx h9 hh] at h;cases h
       · rw [ZbF hm hx h9 (by omega) (by omega)] at h;obtain ⟨h1,h2⟩:=ZbU (P:=P) (l:=l) (i:=i) (by omega);obtain ⟨h3,h4,h5⟩:=ih _ (by omega) _ _ h h2;refine ⟨by omega,h4,?_⟩;rcases h1 with h1 | h1
         · obtain ⟨y,hy,hxy⟩:=Ze2 hx h1;rw [h1] at h3 h5;rw [Zcb hx (by omega),Zcb hy (by omega)];obtain ⟨p,rfl⟩:∃p,m=p+2:=⟨m - 2,by omega⟩;exact .two h9 hxy h5
         · obtain ⟨y,z,hy,hz,hxy⟩:=ZdF hx h1;rw [h1] at h3 h5;rw [Zcb hx (by omega),Zcb hy (by omega),Zcb hz (by omega)];obtain ⟨p,rfl⟩:∃p,m=p+3:=⟨m - 3,by omega⟩;exact .three h9 hxy h5
     · by_cases hk:x.k=10∨x.k=11∨x.k=12
       · rw [ZeI hm hx hk] at h;cases h
       · cases hw:row i 0 with
         | none=>rw [ZdL hm hx h9 hk hw] at h;cases h
         | some en =>
          obtain ⟨e1,n⟩:=en;rw [Zct hm hx h9 hk hw] at h;obtain ⟨a1,a2,a3⟩:=hr _ _ _ _ hw;obtain ⟨h3,h4,h5⟩:=ih _ (by omega) _ _ h a2;refine ⟨by omega,h4,?_⟩;rw [Zgq (Nat.le_of_lt a1) h3];rw [Zcb hx a1] at a3 ⊢;obtain ⟨p,rfl⟩:∃p,m=p+1:=⟨m - 1,by omega⟩;exact .row a3 (by omega) h5
theorem Zff {R:Int→List Ac→Int→Prop} {l:List Ac} {row:Nat→Int→Option (Nat×Int)} (hr:∀i what e n,row i what=some (e,n)→i<e∧e≤l.length∧R what ((l.drop i).take (e - i)) n) (k:Int):∀(vs:List Int) (j i:Nat) (kind wants:Int) (e:Nat) (n:Int),Zw l row k vs j i kind wants=some (e,n)→i≤l.length →
 i≤e∧e≤l.length∧OkK R k vs j kind wants ((l.drop i).take (e - i)) n
 | [],j,i,kind,wants,e,n,h,hi=>by
  simp only [Zw,Option.some.injEq,Prod.mk.injEq] at h;obtain ⟨rfl,rfl⟩:=h;simp only [Nat.sub_self,List.take_zero];exact ⟨lr_,hi,.nil⟩
 | v::vs,j,i,kind,wants,e,n,h,hi=>by
  simp only [Zw] at h;split at h
  · cases h
  · next e1 n1 hw =>
    obtain ⟨a1,a2,a3⟩:=hr _ _ _ _ hw;obtain ⟨h3,h4,h5⟩:=Zff hr k vs _ _ _ _ e n h a2;refine ⟨by omega,h4,?_⟩;obtain ⟨y,hy⟩:∃y,l[i]? = some y:=⟨_,ge_ (by omega)⟩;rw [Zgq (Nat.le_of_lt a1) h3];rw [Zcb hy a1] at a3 ⊢;simp only [hy,Option.map_some,Option.getD_some] at h5;exact .cons a3 h5
theorem Ziw:∀(f i:Nat) (what:Int) (l:List Ac) (e:Nat) (n:Int),Zo P l f i what=some (e,n)→i<e∧e≤l.length∧Ok P f what ((l.drop i).take (e - i)) n
 | 0,i,what,l,e,n,h=>by simp [Zo] at h
 | f+1,i,what,l,e,n,h=>by
  have ih:=fun i what e n=>Ziw f i what l e n
  unfold Zo at h
  cases hx:l[i]? with
  | none=>simp [hx] at h
  | some x =>
   have hil:=(gs_ hx).1;simp only [hx] at h;split at h
   · next hg =>
     simp only [Bool.and_eq_true] at hg;split at h
     · next hk =>
       split at h
       · cases h
       · next hn =>
         cases hb:Zs P l (Zo P l f) x.n.toNat (i+1) with
         | none=>simp [hb] at h
         | some e2 =>
          simp only [hb,Option.map_some,Option.some.injEq,Prod.mk.injEq] at h;obtain ⟨rfl,rfl⟩:=h;obtain ⟨h1,h2,h3⟩:=Zh0 ih _ _ _ hb (by omega);refine ⟨by omega,h2,?_⟩;rw [Zcb hx (by omega)];exact ⟨x,_,rfl,hg.1,hg.2,.inl ⟨hk,by omega,h3,rfl⟩⟩
     · next hk =>
       split at h
       · cases h
       · next hn =>
         cases hb:Zw l (Zo P l f) x.k (kidsV x.k x.n) 0 (i+1) 0 0 with
         | none=>simp [hb] at h
         | some en =>
          obtain ⟨e2,n2⟩:=en;simp only [hb] at h;split at h
          · next hle =>
            simp only [Option.some.injEq,Prod.mk.injEq] at h;obtain ⟨rfl,rfl⟩:=h;obtain ⟨h1,h2,h3⟩:=Zff ih _ _ _ _ _ _ _ _ hb (by omega);refine ⟨by omega,h2,?_⟩;rw [Zcb hx (by omega)];exact ⟨x,_,rfl,hg.1,hg.2,.inr ⟨hk,by simpa using hn,n2,h3,hle,rfl⟩⟩
          · cases h
   · cases h
theorem Zcp {A B:List Ac} {x:Ac} {m:List Ac}:(A++(x::m)++B)[A.length]? = some x:=by simp
theorem ZhP {A B:List Ac} {x y:Ac} {m:List Ac}:(A++(x::y::m)++B)[A.length+1]? = some y:=by
 rw [List.append_assoc,List.getElem?_append_right (by omega)]
 simp
theorem Zlw {A B:List Ac} {x y z:Ac} {m:List Ac}:(A++(x::y::z::m)++B)[A.length+2]? = some z:=by
 rw [List.append_assoc,List.getElem?_append_right (by omega)]
 simp
theorem Zkl {l:List Ac} {i:Nat} {x y:Ac} (hx:l[i]? = some x) (hy:l[i+1]? = some y) (h:Zcg P x y=true):handV P l i=2:=by
 unfold Zcg Zbv at h;rw [Bool.and_eq_true] at h;unfold handV;simp only [hx,hy];rw [if_pos h.1,if_pos h.2]
theorem Zik {l:List Ac} {i:Nat} {x y z:Ac} (hx:l[i]? = some x) (hy:l[i+1]? = some y) (hz:l[i+2]? = some z) (h:Zcf P x y z=true):handV P l i=3:=by
 unfold Zcf at h;simp only [Bool.and_eq_true,decide_eq_true_eq,Bool.not_eq_true'] at h;obtain ⟨⟨⟨h1,h2⟩,h3,h4⟩,h5,h6⟩:=h
 have h12:(decide (x.n=0)&&Zu P x&&(decide (y.n=0)&&Zu P y))=true:=by
  have a1:(Zbv P x&&Zbv P y)=true:=by rw [h1,h2];rfl
  exact a1
 have h56:(decide (z.n=0)&&Zu P z&&(decide (z.k=12)||decide (z.k=10)&&ghV P.gh z.a))=true:=by
  rw [show (decide (z.n=0)&&Zu P z)=Zbv P z from rfl,h5,Bool.true_and];simpa using h6
 unfold handV;simp only [hx,hy,hz];rw [if_pos h12,if_neg (by simp [h3,h4]),if_neg (by simp [h3,h4]),if_pos h56]
theorem Zk9 {R:Int→List Ac→Int→Prop} {m:Nat} {l:List Ac} (h:OkB P R m l):∀(A B:List Ac) (row:Nat→Int→Option (Nat×Int)),(∀what k w A' B',R what k w→A'++k++B'=A++l++B→row A'.length what=some (A'.length+k.length,w))→Zs P (A++l++B) row m A.length=some (A.length+l.length):=by
 induction h with
 | nil =>
  intro A B row _;exact Zcu
 | @two x y m l h9 hxy hb ih =>
  intro A B row hr;have hh:=Zkl (Zcp (A:=A) (B:=B) (x:=x) (m:=y::l)) (ZhP (A:=A) (B:=B) (x:=x) (y:=y) (m:=l)) hxy;rw [ZbF (by omega) Zcp h9 (by omega) (by omega),hh];have:=ih (A++[x,y]) B row (fun what k w A' B' hk e=>hr what k w A' B' hk (by rw [e];simp));simp only [List.append_assoc,List.cons_append,List.nil_append,List.length_append,List.length_cons,List.length_nil] at this ⊢;rw [show m+2 - 2=m by omega,this];congr 1;omega
 | @three x y z m l h9 hxy hb ih =>
  intro A B row hr;have hh:=Zik (Zcp (A:=A) (B:=B) (x:=x) (m:=y::z::l)) (ZhP (A:=A) (B:=B) (x:=x) (y:=y) (m:=z::l)) (Zlw (A:=A) (B:=B) (x:=x) (y:=y) (z:=z) (m:=l)) hxy;rw [ZbF (by omega) Zcp h9 (by omega) (by omega),hh];have:=ih (A++[x,y,z]) B row (fun what k w A' B' hk e=>hr what k w A' B' hk (by rw [e];simp));simp only [List.append_assoc,List.cons_append,List.nil_append,List.length_append,List.length_cons,List.length_nil] at this ⊢;rw [show m+3 - 3=m by omega,this];congr 1;omega
 | @row x m l1 l2 w h1 h2 hb ih =>
  intro A B row hr;have hrow:=hr 0 (x::l1) w A (l2++B) h1 (by simp);rw [Zct (by omega) Zcp (by omega) (by omega) hrow];have:=ih (A++(x::l1)) B row (fun what k w A' B' hk e=>hr what k w A' B' hk (by rw [e];simp));simp only [List.append_assoc,List.cons_append,List.nil_append,List.length_append,List.length_cons,List.length_nil] at this ⊢;rw [show m+1 - 1=m by omega,this];congr 1;omega
theorem Zmz {R:Int→List Ac→Int→Prop} {k:Int} {vs:List Int} {j:Nat} {kind wants w:Int} {l:List Ac} (h:OkK R k vs j kind wants l w):∀(A B:List Ac) (row:Nat→Int→Option (Nat×Int)),(∀what k w A' B',R what k w→A'++k++B'=A++l++B→row A'.length what=some (A'.length+k.length,w))→Zw (A++l++B) row k vs j A.length kind wants=some (A.length+l.length,w):=by
 induction h with
 | nil =>
  intro A B row _;simp [Zw]
 | @cons v vs j kind wants n w y l1 l2 h1 hb ih =>
  intro A B row hr;have hrow:=hr _ (y::l1) n A (l2++B) h1 (by simp);simp only [Zw,hrow,Zcp,Option.map_some,Option.getD_some];have:=ih (A++(y::l1)) B row (fun what k w A' B' hk e=>hr what k w A' B' hk (by rw [e];simp));simp only [List.append_assoc,List.cons_append,List.nil_append,List.length_append,List.length_cons,List.length_nil] at this ⊢;rw [this];congr 2;omega
theorem ZfP:∀(f:Nat) {what:Int} {m:List Ac} {w:Int},Ok P f what m w→∀A B,Zo P (A++m++B) f A.length what=some (A.length+m.length,w)
 | 0,_,_,_,h,_,_=>h.elim
 | f+1,what,m,w,⟨x,l1,e,h1,h2,h3⟩,A,B=>by
  subst e;have hx:(A++(x::l1)++B)[A.length]? = some x:=Zcp
  have hr:∀what k w A' B',Ok P f what k w→A'++k++B'=(A++[x])++l1++B→Zo P (A++(x::l1)++B) f A'.length what=some (A'.length+k.length,w):=fun what k w A' B' hk e=>by
   have:=ZfP f hk A' B';rw [e] at this;simpa using this
  unfold Zo;simp only [hx];rw [if_pos (by rw [h1,h2];rfl)];rcases h3 with ⟨hk,hn,hb,hw⟩ | ⟨hk,hn,w0,hb,hle,hw⟩
  · rw [if_pos hk,if_neg (by omega)];have:=Zk9 hb (A++[x]) B _ hr;simp only [List.append_assoc,List.cons_append,List.nil_append,List.length_append,List.length_cons,List.length_nil,Nat.zero_add] at this ⊢;rw [this,hw];simp only [Option.map_some];congr 2;omega
  · rw [if_neg hk,if_neg (by omega)];have:=Zmz hb (A++[x]) B _ hr;simp only [List.append_assoc,List.cons_append,List.nil_append,List.length_append,List.length_cons,List.length_nil,Nat.zero_add] at this ⊢;rw [this];simp only;rw [if_pos hle,hw];congr 2;omega
theorem ZhR {l:List Ac} (h0:l≠[]):Zy P l=true ↔ ∃w,Ok P (l.length+1) 1 l w:=by
 have hle:l.isEmpty=false:=by simpa using h0
 unfold Zy;rw [hle,Bool.false_or];constructor
 · intro h
   cases hr:Zo P l (l.length+1) 0 1 with
   | none=>simp [hr] at h
   | some en =>
    obtain ⟨e,n⟩:=en;simp only [hr,decide_eq_true_eq] at h;obtain ⟨h1,h2,h3⟩:=Ziw _ _ _ _ _ _ hr;obtain rfl:e=l.length:=by omega
    simp only [List.drop_zero,Nat.sub_zero,List.take_length] at h3;exact ⟨n,h3⟩
 · rintro ⟨w,h⟩;have:=ZfP _ h [] [];simp only [List.nil_append,List.append_nil,List.length_nil,Nat.zero_add] at this;rw [this]
   simp
end
end Go.Proofs.Ytdpokdcendgfeaa
