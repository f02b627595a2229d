/- Several texts in one: The walk of the reference's Same, of two plans that are alike but for their rows. Conditions: those of each. -/
import Derived.Test.YtdpokdcendgfeaaW37
import Derived.Test.YtdpokdcendgfeaaW31
set_option linter.unusedSimpArgs false
set_option linter.unusedVariables false
set_option maxHeartbeats 80000000
set_option maxRecDepth 100000
namespace Go.Proofs.Ytdpokdcendgfeaa
open Go.RowKit
theorem Zjf (w:World) (x0 x1 x2:Int):(binOp .neq 51 (.agg #[.int .i64 x0,.int .i64 x1,.int .i64 x2]) (.agg #[.int .i64 x0,.int .i64 x1,.int .i64 x2])).run Try.prog w=.ok (.bool false) w:=by
 have f1 : (Try.prog.fieldsOf 51).toList.map (fun f => (f.name == "_", f.type, f.offset)) = [(false, 3, 0), (false, 3, 1), (false, 3, 2)] := by kernel_rfl
 have u1:Try.prog.underlying 51=some (.struct (Try.prog.fieldsOf 51)):=by kernel_rfl
 have s1:Try.prog.stoodInHeld 51=false:=by kernel_rfl
 have h1:=run_equalIn_agg (P:=Try.prog) w 9999 51 #[.int .i64 x0,.int .i64 x1,.int .i64 x2] #[.int .i64 x0,.int .i64 x1,.int .i64 x2] u1 s1;have h2:=ZcA (P:=Try.prog) (w:=w) (d:=9998) (t:=3) (k:=.i64) Try.underlying3 #[.int .i64 x0,.int .i64 x1,.int .i64 x2] #[.int .i64 x0,.int .i64 x1,.int .i64 x2] (Try.prog.fieldsOf 51).toList [(x0,0),(x1,1),(x2,2)] [(x0,0),(x1,1),(x2,2)] f1 rfl (by simp) (by simp);rw [run_neq_struct,h1,h2]
 simp
theorem ZnG:Try.prog.eqGuardType Try.prog.depth 51=false:=by kernel_rfl
theorem ZjU {w:World} {q:PlV} {P:Pl} {rs:List (Option Addr×Nat)} (h:PlMem w q P rs) {i:Nat} {l:List Ac} (hi:P.on[i]? = some l):∃oa c,Src w oa l.length (acs l)∧∃ad,q.oa=some ad∧ad.block<w.heap.size∧w.cell? (ad.add i)=some (.slice oa l.length c):=by
 have hil:=(gs_ hi).1;have hrl:=h.e.1;simp only [List.length_append,List.length_cons,List.length_nil] at hrl;obtain ⟨⟨oa,c⟩,hr⟩:∃r,rs[i]? = some r:=⟨_,ge_ (by omega)⟩;have h1:=h.e.2 i oa c l (by rw [List.getElem?_append_left (by omega)];exact hr) (by rw [List.getElem?_append_left hil];exact hi);obtain ⟨ad,e,h2,h3⟩:=h.o (by omega);exact ⟨oa,c,h1.1,ad,e,h2,h3 i _ (ZaS rs P.on i _ _ hr hi)⟩
theorem ZjT {w:World} {q:PlV} {P:Pl} {rs:List (Option Addr×Nat)} (h:PlMem w q P rs):Src w q.ma P.ms.length (acs P.ms):=by
 have hrl:=h.e.1;simp only [List.length_append,List.length_cons,List.length_nil] at hrl;exact (h.e.2 P.on.length q.ma q.mc P.ms (by rw [List.getElem?_append_right (by omega),show P.on.length - rs.length=0 by omega];rfl) (by rw [List.getElem?_append_right lr_,Nat.sub_self];rfl)).1
theorem Zd7 (w:World) (q q2:PlV) (P P2:Pl) (rs rs2:List (Option Addr×Nat)) (h:PlMem w q P rs) (h2:PlMem w q2 P2 rs2) (eg:P2.gh=P.gh) (ev:P2.vs=P.vs) (et:P2.ts=P.ts) (eo:P2.on.length=P.on.length) (hsz:P.gh.length≤1048576∧P.vs.length≤1048576∧P.ts.length≤1048576∧P.on.length≤1048576) (hrow:∀l ∈ P.on++[P.ms],l.length≤4194304) :
 Calls Try.prog 35 #[q.val,q2.val] w fun en w'=>en=.returned (.bool (decide (P.ms=P2.ms)&&decide (P.on=P2.on)))∧Below w.heap.size w w':=by
 have HM:=Za h;have HM2:=Za h2;have HROW:=Za hrow;obtain ⟨gh2,vs2,ts2,on2,ms2⟩:=P2;simp only at eg ev et eo;subst eg ev et;obtain ⟨e1,e2,e3,e4,e5,_,_,_,_,_,_⟩:=h;obtain ⟨f1,f2,f3,f4,f5,_,_,_,_,_,_⟩:=h2;obtain ⟨ga,va,ta,oa,ma,gl,gc,vl,vc,tl,tc,ol,oc,ml,mc⟩:=q;obtain ⟨ha,ya,sa,pa,na,hl,hc,yl,yc,sl,sc,pl,pc,nl,nc⟩:=q2;simp only at e1 e2 e3 e4 e5 f1 f2 f3 f4 f5;subst e1 e2 e3 e4 e5 f1 f2 f3 f4 f5;simp only [PlV.val];obtain ⟨ng,hng⟩:∃n,P.gh.length=n:=⟨_,rfl⟩;obtain ⟨nv,hnv⟩:∃n,P.vs.length=n:=⟨_,rfl⟩;obtain ⟨nt,hnt⟩:∃n,P.ts.length=n:=⟨_,rfl⟩;obtain ⟨no,hno⟩:∃n,P.on.length=n:=⟨_,rfl⟩;obtain ⟨nm,hnm⟩:∃n,P.ms.length=n:=⟨_,rfl⟩;obtain ⟨nn,hnn⟩:∃n,ms2.length=n:=⟨_,rfl⟩;have hno2:on2.length=no:=by rw [←hno];exact eo
 rw [hng,hnv,hnt,hno] at hsz;rw [hng,hnv,hnt,hno,hnm,hnn];rw [hno2];have HNG:=Za hng;have HNV:=Za hnv;have HNT:=Za hnt;have HNO:=Za hno;have HNO2:=Za hno2;have HNM:=Za hnm;have HNN:=Za hnn;obtain ⟨hs1,hs2,hs3,hs4⟩:=hsz;have HB1:=Za ((Below.refl w.heap.size w).alloc lr_ (.cells #[.slice ga ng gc,.slice va nv vc,.slice ta nt tc,.slice oa no oc,.slice ma nm mc] 28));have HP1:=Za (Blk.new w 28 #[.slice ga ng gc,.slice va nv vc,.slice ta nt tc,.slice oa no oc,.slice ma nm mc]);have hne:=Zjf;have hgd:=ZnG;have hb1:((ng:Int) != (ng:Int))=false:=by simp
 have hb2:((nv:Int) != (nv:Int))=false:=by simp
 have hb3:((nt:Int) != (nt:Int))=false:=by simp
 have hb4:((no:Int) != (no:Int))=false:=by simp
 clear hng hnv hnt hno hno2 hnm hnn hrow eo;go_enter Try.func35,Try.ntmps35;go_upto_region 1 with fail;have hsz1:(w.alloc (.cells #[.slice ga ng gc,.slice va nv vc,.slice ta nt tc,.slice oa no oc,.slice ma nm mc] 28)).heap.size=w.heap.size+1:=Array.size_push _;have HB2:=Za (HB1.out.alloc HB1.out.size (.cells #[.slice ha ng hc,.slice ya nv yc,.slice sa nt sc,.slice pa no pc,.slice na nn nc] 28));have HP2:=Za (HP1.out.alloc (.cells #[.slice ha ng hc,.slice ya nv yc,.slice sa nt sc,.slice pa no pc,.slice na nn nc] 28));have HQ2:=Za (Blk.new (w.alloc (.cells #[.slice ga ng gc,.slice va nv vc,.slice ta nt tc,.slice oa no oc,.slice ma nm mc] 28)) 28 #[.slice ha ng hc,.slice ya nv yc,.slice sa nt sc,.slice pa no pc,.slice na nn nc]);rw [hsz1] at HQ2;generalize (w.alloc (.cells #[.slice ga ng gc,.slice va nv vc,.slice ta nt tc,.slice oa no oc,.slice ma nm mc] 28)).alloc (.cells #[.slice ha ng hc,.slice ya nv yc,.slice sa nt sc,.slice pa no pc,.slice na nn nc] 28)=W2 at HB2 HP2 HQ2 ⊢;obtain ⟨g2,hg2⟩:∃g,w.heap.size=g:=⟨_,rfl⟩;rw [hg2] at HP2 HQ2
 try simp only [hg2]
 have HG2:=Za hg2;clear hg2 hsz1;have HPM:=Za (fun (W:World) (hb:Below W2.heap.size W2 W)=>HM.out.below (HB2.out.trans (hb.mono HB2.out.size)));have HPM2:=Za (fun (W:World) (hb:Below W2.heap.size W2 W)=>HM2.out.below (HB2.out.trans (hb.mono HB2.out.size)));have HBX:=Za (fun (W:World) (hb:Below W2.heap.size W2 W)=>(⟨HP2.out.below hb HP2.out.lt,HQ2.out.below hb HQ2.out.lt,HB2.out.trans (hb.mono HB2.out.size)⟩:Blk W g2 28 #[.slice ga ng gc,.slice va nv vc,.slice ta nt tc,.slice oa no oc,.slice ma nm mc]∧Blk W (g2+1) 28 #[.slice ha ng hc,.slice ya nv yc,.slice sa nt sc,.slice pa no pc,.slice na nn nc]∧Below w.heap.size w W));obtain ⟨x0,x1,x2,x3,x4,_⟩:=ZaR HP2.out;obtain ⟨y0,y1,y2,y3,y4,_⟩:=ZaR HQ2.out;have hsa:=ZgF W2 ma na mc nc P.ms ms2 (ZjT (HPM.out W2 br_)) (ZjT (HPM2.out W2 br_)) (HROW.out P.ms (by simp));rw [HNM.out,HNN.out] at hsa;obtain ⟨bm,hbm⟩:∃b,decide (P.ms=ms2)=b:=⟨_,rfl⟩;rw [hbm] at hsa;have HSA:=Za hsa;have HBM:=Za hbm;clear hsa hbm
 cases bm with
 | false =>
  go_wp2_with (go_at_call 62;with_reducible refine HSA.out.mono ?_;rintro en W3 ⟨rfl,hb3⟩;have HB3:=Za hb3;clear hb3);go_ret;have h1:P.ms≠ms2:=of_decide_eq_false HBM.out;exact ⟨by simp [h1],(HBX.out _ HB3.out).2.2⟩
 | true =>
  go_upto_region 3 with (go_at_call 62;with_reducible refine HSA.out.mono ?_;rintro en W3 ⟨rfl,hb3⟩;have HB3:=Za hb3;clear hb3);clear x0 x1 x2 x3 x4 y0 y1 y2 y3 y4;go_wp2_with fail;go_loopw [5] (fun t5 W=>∃i:Nat,t5=.int .i64 (i:Int)∧i≤ng∧Below W2.heap.size W2 W) (fun t5 _=>ng - (intOf t5).toNat)
  case atStart=>exact ⟨0,rfl,Nat.zero_le _,HB3.out⟩
  case round =>
   obtain ⟨i,rfl,hi,hw⟩:=hrel;rename World=>W
   have HW:=Za hw;obtain ⟨bp,bq,-⟩:=HBX.out W hw;have u1:=IntWalk.i64_in ((i:Int)+1) (by omega);have hi0:(0:Int)≤(i:Int):=by omega
   obtain ⟨x0,-,-,-,-,-⟩:=ZaR bp;obtain ⟨y0,-,-,-,-,-⟩:=ZaR bq
   by_cases hlt:i<ng
   · have hltI:(i:Int)<(ng:Int):=by omega
     obtain ⟨b,hbb⟩:∃b,P.gh[i]? = some b:=⟨_,ge_ (by rw [HNG.out];exact hlt)⟩;have hcl:(ZZ P.gh)[i]? = some (.bool b):=by simp [ZZ,hbb]
     obtain ⟨ad,e,hab,c1⟩:=Za3 (HPM.out W hw).g (i:=i) (v:=.bool b) (by rw [HNG.out];omega) hcl;simp only at e;subst e;obtain ⟨ad2,e,hab2,c2⟩:=Za3 (HPM2.out W hw).g (i:=i) (v:=.bool b) (by show 0<P.gh.length;rw [HNG.out];omega) hcl;simp only at e;subst e;clear hw hbb hcl hab hab2 bp bq
     cases b
     · go_wp2_with fail;go_quiet (fail);go_wp2_with fail;go_roundw
       case rel=>exact ⟨i+1,by go_num,by omega,Zc HW.out _⟩
       case measure=>simp [intOf];omega
     · go_wp2_with fail;go_quiet (fail);go_wp2_with fail;go_roundw
       case rel=>exact ⟨i+1,by go_num,by omega,Zc HW.out _⟩
       case measure=>simp [intOf];omega
   · have hltI:¬(i:Int)<(ng:Int):=by omega
     clear hlt hi hw bp bq;go_wp2_with fail;go_loopw [6] (fun t6 W=>∃i:Nat,t6=.int .i64 (i:Int)∧i≤nv∧Below W2.heap.size W2 W) (fun t6 _=>nv - (intOf t6).toNat)
     case atStart=>exact ⟨0,rfl,Nat.zero_le _,HW.out⟩
     case round =>
      obtain ⟨i,rfl,hi,hw⟩:=hrel;rename World=>W
      have HW:=Za hw;obtain ⟨bp,bq,-⟩:=HBX.out W hw;have u1:=IntWalk.i64_in ((i:Int)+1) (by omega);have hi0:(0:Int)≤(i:Int):=by omega
      obtain ⟨-,x1,-,-,-,-⟩:=ZaR bp;obtain ⟨-,y1,-,-,-,-⟩:=ZaR bq
      by_cases hlt:i<nv
      · have hltI:(i:Int)<(nv:Int):=by omega
        obtain ⟨v,hv⟩:∃v,P.vs[i]? = some v:=⟨_,ge_ (by rw [HNV.out];exact hlt)⟩;obtain ⟨ad,e,hab,q0,q1,q2⟩:=ZeN (HPM.out W hw).v hv;simp only at e;subst e;obtain ⟨ad2,e,hab2,p0,p1,p2⟩:=ZeN (HPM2.out W hw).v hv;simp only at e;subst e;clear hw hv hab hab2 bp bq;go_wp2_with fail;go_quiet (fail);go_wp2_with fail;go_roundw
        case rel=>exact ⟨i+1,by go_num,by omega,Zc HW.out _⟩
        case measure=>simp [intOf];omega
      · have hltI:¬(i:Int)<(nv:Int):=by omega
        clear hlt hi hw bp bq;go_wp2_with fail;go_loopw [7] (fun t7 W=>∃i:Nat,t7=.int .i64 (i:Int)∧i≤nt∧Below W2.heap.size W2 W) (fun t7 _=>nt - (intOf t7).toNat)
        case atStart=>exact ⟨0,rfl,Nat.zero_le _,HW.out⟩
        case round =>
         obtain ⟨i,rfl,hi,hw⟩:=hrel;rename World=>W
         have HW:=Za hw;obtain ⟨bp,bq,-⟩:=HBX.out W hw;have u1:=IntWalk.i64_in ((i:Int)+1) (by omega);have hi0:(0:Int)≤(i:Int):=by omega
         obtain ⟨-,-,x2,-,-,-⟩:=ZaR bp;obtain ⟨-,-,y2,-,-,-⟩:=ZaR bq
         by_cases hlt:i<nt
         · have hltI:(i:Int)<(nt:Int):=by omega
           obtain ⟨x,hx⟩:∃x,P.ts[i]? = some x:=⟨_,ge_ (by rw [HNT.out];exact hlt)⟩;have hcl:(Zm P.ts)[i]? = some (.int .i64 x):=by simp [Zm,hx]
           obtain ⟨ad,e,hab,c1⟩:=Za3 (HPM.out W hw).t (i:=i) (v:=.int .i64 x) (by rw [HNT.out];omega) hcl;simp only at e;subst e;obtain ⟨ad2,e,hab2,c2⟩:=Za3 (HPM2.out W hw).t (i:=i) (v:=.int .i64 x) (by show 0<P.ts.length;rw [HNT.out];omega) hcl;simp only at e;subst e;have hxx:((x:Int) != x)=false:=by simp
           clear hw hx hcl hab hab2 bp bq;go_wp2_with fail;go_quiet (fail);go_wp2_with fail;go_roundw
           case rel=>exact ⟨i+1,by go_num,by omega,Zc HW.out _⟩
           case measure=>simp [intOf];omega
         · have hltI:¬(i:Int)<(nt:Int):=by omega
           clear hlt hi hw bp bq;go_wp2_with fail;go_loopw [8] (fun t8 W=>∃i:Nat,t8=.int .i64 (i:Int)∧i≤no∧Below W2.heap.size W2 W∧Hid (∀j x y,j<i→P.on[j]? = some x→on2[j]? = some y→x=y)) (fun t8 _=>no - (intOf t8).toNat)
           case atStart=>exact ⟨0,rfl,Nat.zero_le _,HW.out,Za (fun j x y h=>absurd h (Nat.not_lt_zero _))⟩
           case round =>
            obtain ⟨i,rfl,hi,hw,HE⟩:=hrel;rename World=>W
            have HW:=Za hw;obtain ⟨bp,bq,-⟩:=HBX.out W hw;have u1:=IntWalk.i64_in ((i:Int)+1) (by omega);have hi0:(0:Int)≤(i:Int):=by omega
            obtain ⟨-,-,-,x3,-,-⟩:=ZaR bp;obtain ⟨-,-,-,y3,-,-⟩:=ZaR bq
            by_cases hlt:i<no
            · have hltI:(i:Int)<(no:Int):=by omega
              obtain ⟨l,hl⟩:∃l,P.on[i]? = some l:=⟨_,ge_ (by rw [HNO.out];exact hlt)⟩;obtain ⟨m,hm⟩:∃m,on2[i]? = some m:=⟨_,ge_ (by rw [HNO2.out];exact hlt)⟩;obtain ⟨oae,ce,hs,ad,e,hab,c1⟩:=ZjU (HPM.out W hw) hl;simp only at e;subst e;obtain ⟨oaf,cf,hs2,ad2,e,hab2,c2⟩:=ZjU (HPM2.out W hw) (i:=i) (l:=m) hm;simp only at e;subst e;obtain ⟨bb,hbb⟩:∃b,decide (l=m)=b:=⟨_,rfl⟩;have hsa:=ZgF W.drew oae oaf ce cf l m (hs.below (Below.refl _ W).drew) (hs2.below (Below.refl _ W).drew) (HROW.out l (List.mem_append_left _ (List.mem_of_getElem? hl)));rw [hbb] at hsa;have HSB:=Za hsa;have HBB:=Za hbb;have HL:=Za hl;have HMM:=Za hm;clear hsa hbb hl hm hs hs2 hab hab2 bp bq hw;go_upto_region 21 with fail;go_still_tail 10,(by kernel_rfl);change wpList _ _ _ _ _ W.drew;go_wp2_with fail;go_at_call 62;with_reducible refine HSB.out.mono ?_
              rintro en W6 ⟨rfl,hb6⟩;have HB6:=Za (show Below W.heap.size W W6 from (Below.refl _ W).drew.trans (hb6.mono lr_));clear hb6
              cases bb with
              | true =>
               go_wp2_with fail;go_roundw
               case rel =>
                refine ⟨i+1,by go_num,by omega,HW.out.trans (HB6.out.mono HW.out.size),Za (fun j x y hj h1 h2=>?_)⟩;rcases Nat.lt_succ_iff_lt_or_eq.1 hj with h9 | h9
                · exact HE.out j x y h9 h1 h2
                · subst h9;rw [HL.out] at h1;rw [HMM.out] at h2;rw [←Option.some.inj h1,←Option.some.inj h2];exact of_decide_eq_true HBB.out
               case measure=>simp [intOf];omega
              | false =>
               have HF:=Za (show (decide (P.ms=ms2)&&decide (P.on=on2))=false by
                rw [Bool.and_eq_false_iff];right;rw [decide_eq_false_iff_not];rintro rfl;have h1:=HL.out;rw [HMM.out] at h1;have h2:=HBB.out;rw [←Option.some.inj h1] at h2
                simp at h2)
               go_wp2_with fail;go_ret;exact ⟨by rw [HF.out];first | done | rfl,(HBX.out _ (HW.out.trans (HB6.out.mono HW.out.size))).2.2⟩
            · have hltI:¬(i:Int)<(no:Int):=by omega
              have HT:=Za (show (decide (P.ms=ms2)&&decide (P.on=on2))=true by
               rw [HBM.out,Bool.true_and,decide_eq_true_eq];apply List.ext_getElem?;intro j
               by_cases hj:j<no
               · obtain ⟨x,hx⟩:∃x,P.on[j]? = some x:=⟨_,ge_ (by rw [HNO.out];exact hj)⟩;obtain ⟨y,hy⟩:∃y,on2[j]? = some y:=⟨_,ge_ (by rw [HNO2.out];exact hj)⟩;rw [hx,hy,HE.out j x y (by omega) hx hy]
               · rw [List.getElem?_eq_none (by rw [HNO.out];omega),List.getElem?_eq_none (by rw [HNO2.out];omega)])
              clear hw bp bq;go_wp2_with fail;go_ret;exact ⟨by rw [HT.out];first | done | rfl,(HBX.out _ HW.out).2.2⟩
end Go.Proofs.Ytdpokdcendgfeaa
